import Derived.Test.YtnafpeohfbglmaaGreatRf
import Derived.Shelf.Sort.Plain
import Derived.KernelRfl
set_option linter.unusedVariables false
set_option linter.unusedSimpArgs false
set_option maxRecDepth 100000
set_option maxHeartbeats 4000000
open Array renaming getElem?_eq_some_iff→i9,length_toList→ac7
open Bool renaming and_eq_true→f7,and_false→ai2,eq_false_iff→ad0,eq_iff_iff→ad3,false_and→f5,false_eq_true→ad4,false_or→ae9,not_false→ah0,not_true→ah7,or_eq_false_iff→ai1,or_true→ao3,true_and→f0,true_or→ai4
open Int renaming le_refl→ai0,toNat_natCast→ac0
open Go.IntKind renaming wrap→H1
open List renaming Perm→aj7,all_eq_false→at5,all_eq_true→af3,any_eq_false→ai3,any_eq_true→ae2,append_assoc→ae',append_nil→d7,append_of_mem→ar3,cons_append→ab',contains_append→al0,contains_cons→ap2,contains_iff_mem→af7,drop_eq_getElem_cons→aq6,drop_zero→aj',ext_getElem?→an8,filter_cons→ah3,find?_eq_none→at0,find?_some→au3,findIdx?_append→av8,findIdx?_eq_none_iff→af8,findIdx?_eq_some_iff_getElem→ae8,flatMap_append→as5,flatMap_cons→ah4,flatten_cons→ap3,foldl_append→am6,foldl_cons→af2,getD_eq_getElem?_getD→d6,getElem?_append_left→ad6,getElem?_append_right→ad5,getElem?_eq_getElem→g6,getElem?_eq_none→aj9,getElem?_eq_some_iff→ac3,getElem?_map→ad2,getElem?_of_mem→ag3,getElem?_set_self→al2,getElem?_set→ar8,getElem?_take→af',getElem_mem→aj6,isEmpty_iff_length_eq_zero→as0,length_append→f8,length_cons→i8,length_drop→ag2,length_eq_zero_iff→au2,length_map→f6,length_mergeSort→ap8,length_nil→ae0,length_replicate→ad9,length_set→ad',length_singleton→ae6,length_take→ac8,map_append→ac2,map_cons→ac4,map_set→an2,mem_append_left→ai5,mem_append_right→an5,mem_append→ac9,mem_cons_of_mem→i5,mem_cons_self→i7,mem_cons→ad1,mem_filter→af6,mem_map→ad7,mem_of_find?_eq_some→aq4,mem_of_getElem?→d5,mem_or_eq_of_mem_set→al7,mem_range→ah9,mem_singleton→z2,nil_append→d8,nodup_append→am4,perm_append_comm_assoc→as8,perm_append_comm→ap7,perm_cons→ay8,perm_middle→ak9,range_succ→ap0,range→ae7,replicate_succ'→am2,replicate→t7,set_append_left→av6,set_append_right→aj1,set_set→at9,take_append_drop→ag5,take_append_of_le_length→ag4,take_left'→an6,take_length→ac6,take_of_length_le→af0,take_zero→aj2
open Nat renaming add_comm→an1,add_sub_cancel_left→ao5,beq→ac',blt→t6,eq_of_beq_eq_true→ac1,le_refl→i0,le_succ→ax5,lt_of_lt_of_le→ai7,lt_or_ge→am0,lt_succ_iff_lt_or_eq→af1,min_eq_left→ak2,mul_le_mul_right→ak3,mul_one→ag7,not_lt_zero→al',or_lt_two_pow→ag9,pow_le_pow_right→af4,pow_lt_pow_right→ag1,sub_self→ao1,succ_mul→at7,testBit_lt_two_pow→ak5,zero_add→ae4,zero_le→g7
open Option renaming bind_none→ag0,bind_some→ah2,getD_some→ae1,some→al8
open Go.Result renaming andThen_ok→g9
open Go.Sem renaming run_bind→aa',run_pure→ac5
open Go.Proofs.Tryz renaming prog→d0
theorem Mx {p:Prop} (h:p:=by repeat (first|exact trivial|refine ⟨⟨_,rfl,aM⟩,?_⟩|refine ⟨⟨_,rfl,aS.of_eq (by (rw [jv (by omega)];rfl))⟩,?_⟩)):p:=h
theorem Dv {p:Prop} (h:p:=by repeat (first|exact trivial|refine ⟨⟨_,rfl,aM⟩,?_⟩|refine ⟨⟨_,rfl,aS.of_eq (by (rw [kl]))⟩,?_⟩)):p:=h
theorem Dw {p:Prop} (h:p:=by repeat (first|exact aH.all _|(apply aH.cons;· repeat (first|exact bp.here|apply bp.there)))):p:=h
theorem G7 {p:Prop} (h:p:=by show (σ (bw arg path)).bl.length-(j+1)<(σ (bw arg path)).bl.length-j;omega):p:=h
theorem G8 {p:Prop} (h:p:=by rw [List.take_left' (by simp),List.all_map];simp [Function.comp_def,bb,fa]):p:=h
theorem G9 {p:Prop} (h:p:=by show dU.parents.length-(k+1)<dU.parents.length-k;omega):p:=h
theorem p8 {p:Prop} (h:p:=by show x.kids.length-(j+1)<x.kids.length-j;omega):p:=h
theorem yB {p:Prop} (h:p:=by show f.kids.length-(j+1)<f.kids.length-j;omega):p:=h
theorem Dx {p:Prop} (h:p:=by show g.length-y<g.length-j;omega):p:=h
theorem u0 {p:Prop} (h:p:=by rw [List.length_map];omega):p:=h
theorem sc {p:Prop} (h:p:=by simpa using az):p:=h
theorem u1 {p:Prop} (h:p:=by simpa using dh):p:=h
theorem w3 {p:Prop} (h:p:=by simpa using a8):p:=h
namespace Go.Proofs.YtnafpeohfbglmaaGreat
open Go.Shelf Go.Sort Go.Proofs
def VO:Go.Shelf.Ren:=⟨fun|189=>276|125=>290|257=>289|128=>303|129=>304|294=>294|295=>295|296=>296|297=>297|298=>298|299=>299|216=>300|300=>301|301=>302|328=>309|329=>310|330=>311|331=>312|332=>313|215=>314|343=>317|n=>n,fun|28=>23|3=>3|46=>303|0=>0|51=>329|53=>104|4=>4|183=>356|182=>355|131=>164|5=>5|9=>9|218=>363|222=>251|228=>368|229=>126|n=>n,fun n=>n⟩
theorem VP:Lays.n189 d0 VO where
 mixed:=by kernel_rfl
 f125 := Tryz.func290.trans (congrArg some fC)
 f128 := Tryz.func303.trans (congrArg some fC)
 f129 := Tryz.func304.trans (congrArg some fC)
 f189 := Tryz.func276.trans (congrArg some fC)
 f215 := Tryz.func314.trans (congrArg some fC)
 f216 := Tryz.func300.trans (congrArg some fC)
 f257 := Tryz.func289.trans (congrArg some fC)
 f294 := Tryz.func294.trans (congrArg some fC)
 f295 := Tryz.func295.trans (congrArg some fC)
 f296 := Tryz.func296.trans (congrArg some fC)
 f297 := Tryz.func297.trans (congrArg some fC)
 f298 := Tryz.func298.trans (congrArg some fC)
 f299 := Tryz.func299.trans (congrArg some fC)
 f300 := Tryz.func301.trans (congrArg some fC)
 f301 := Tryz.func302.trans (congrArg some fC)
 f328 := Tryz.func309.trans (congrArg some fC)
 f329 := Tryz.func310.trans (congrArg some fC)
 f330 := Tryz.func311.trans (congrArg some fC)
 f331 := Tryz.func312.trans (congrArg some fC)
 f332 := Tryz.func313.trans (congrArg some fC)
 f343 := Tryz.func317.trans (congrArg some fC)
 t0 := Tryz.underlying0
 a0 := Tryz.isAgg0
 z0 := Tryz.sizeOf0
 v0 := Tryz.zeroValue0
 t3 := Tryz.underlying3
 a3 := Tryz.isAgg3
 z3 := Tryz.sizeOf3
 v3 := Tryz.zeroValue3
 t4 := Tryz.underlying4
 a4 := Tryz.isAgg4
 z4 := Tryz.sizeOf4
 v4 := Tryz.zeroValue4
 t5 := Tryz.underlying5
 a5 := Tryz.isAgg5
 z5 := Tryz.sizeOf5
 v5 := Tryz.zeroValue5
 t9 := Tryz.underlying9
 a9 := Tryz.isAgg9
 z9 := Tryz.sizeOf9
 v9 := Tryz.zeroValue9
 t28 := Tryz.underlying23
 a28 := Tryz.isAgg23
 z28 := Tryz.sizeOf23
 v28 := Tryz.zeroValue23
 t46 := Tryz.underlying303
 a46 := Tryz.isAgg303
 z46 := Tryz.sizeOf303
 v46 := Tryz.zeroValue303
 t51 := Tryz.underlying329
 a51 := Tryz.isAgg329
 z51 := Tryz.sizeOf329
 v51 := Tryz.zeroValue329
 t53 := Tryz.underlying104
 a53 := Tryz.isAgg104
 z53 := Tryz.sizeOf104
 v53 := Tryz.zeroValue104
 t131 := Tryz.underlying164
 a131 := Tryz.isAgg164
 z131 := Tryz.sizeOf164
 v131 := Tryz.zeroValue164
 t182 := Tryz.underlying355
 a182 := Tryz.isAgg355
 z182 := Tryz.sizeOf355
 v182 := Tryz.zeroValue355
 t183 := Tryz.underlying356
 a183 := Tryz.isAgg356
 z183 := Tryz.sizeOf356
 v183 := Tryz.zeroValue356
 t218 := Tryz.underlying363
 a218 := Tryz.isAgg363
 z218 := Tryz.sizeOf363
 v218 := Tryz.zeroValue363
 t222 := Tryz.underlying251
 a222 := Tryz.isAgg251
 z222 := Tryz.sizeOf251
 v222 := Tryz.zeroValue251
 t228 := Tryz.underlying368
 a228 := Tryz.isAgg368
 z228 := Tryz.sizeOf368
 v228 := Tryz.zeroValue368
 t229 := Tryz.underlying126
 a229 := Tryz.isAgg126
 z229 := Tryz.sizeOf126
 v229 := Tryz.zeroValue126
theorem VQ (rS off cap:Nat) (a1:List Int) (w:World) (FR:Holds (Value.int .i64) w rS off a1.toArray) (VR:rS<w.heap.size) (ca:a1.length<4611686018427387904) :
  Calls d0 276 #[.slice (some ⟨rS,off,none⟩) a1.length cap] w fun e w'=>
   e = .returned (.tuple #[])∧∃ n os,w'=grow (putRow (Value.int .i64) (Sort.ahead w n) rS off (a1.mergeSort fun x y=>decide (x≤y)).toArray) os:=
 Any.slices_Sort_int VP rS off cap a1 w FR VR ca
end Go.Proofs.YtnafpeohfbglmaaGreat
namespace Go.Proofs.YtnafpeohfbglmaaGreat
open Go.cW Go.dv
theorem VS (w:World) (p:bT) (v:Value) (a:Int) (h:Rel w p v (.int .i64 a)):v = .int .i64 a:=by cases h;rfl
theorem G' (b cap:Nat) (l:List Int) (rest:List af) (aB:l.length<4611686018427387904) :
  bE d0 276 [eu b l.length cap] [(.own b,.box 3 (l.map bb++rest))] (fun o K=>o = .ret (.cu [])∧K=[(.own b,.box 3 ((l.mergeSort fun x y=>decide (x≤y)).map bb++rest))]):=
 bE.sort (α:=Int) (enc:=Value.int .i64) (encA:=bb) (le:=fun x y=>decide (x≤y)) call276 VS (fun w p a => .int _ _) VQ b cap l rest aB
end Go.Proofs.YtnafpeohfbglmaaGreat
namespace Go.cW
theorem bp.A1 {L:a'} {k:bM} {o:dG} {a b:a'} (h:L=a++(k,o)::b):bp L k o (a++b):=by
 subst h;exact bp.app a .here
theorem aH.iw:∀ {K L:a'},L.Perm K→aH L K []
  | [],L,h=>by
    have:L=[]:=h.eq_nil;subst this;exact .nil
  | (k,o)::K,L,h=>by
    obtain ⟨a,b,hz⟩:=ar3 (h.symm.subset i7);refine .cons (bp.A1 hz) (aH.iw ?_);rw [hz] at h;exact (ay8 _).1 (ak9.symm.trans h)
theorem My (s:ao) (L:a'):∀ (sd:a'),(∀ x∈sd,x.1 = .nil)→aT s (sd++L)=aT s L∧(Ok s L→Ok s (sd++L))
  | [],_=>⟨rfl,id⟩
  | (k,o)::sd,h=>by
    have aD:k = .nil:=h (k,o) i7;subst aD;obtain ⟨U,ae⟩:=My s L sd fun x ab=>h x (i5 _ ab)
    exact ⟨U,fun I=>⟨trivial,ae I⟩⟩
theorem bE.frame {P:Program} {f:FuncId} {args:List af} {K L R:a'} {acv D:eB→a'→Prop} (h:bE P f args K acv) (au:aH L K R) (e4:∀ o aO,acv o aO→∃ sd M,(∀ x∈sd,x.1 = .nil)∧(sd++(aO++R)).Perm M∧D o M):bE P f args L D:=
 fun s I=>(h.at I au).mono fun o al ⟨TK,e,yf,aO,Gk,Gl⟩=>by
  subst Gk;obtain ⟨sd,M,VT,aE,fb⟩:=e4 o aO Gl;obtain ⟨k5,Dt⟩:=My s (aO++R) sd VT;obtain ⟨U,ae⟩:=(aH.iw aE).perm (Dt yf);rw [d7] at U ae;exact ⟨M,e.trans (k5.symm.trans U),ae,fb⟩
end Go.cW
namespace Go.Proofs.YtnafpeohfbglmaaGreat
open Go.cW Go.dv
abbrev q7:=Option (Nat×Nat×List af)
def la:q7→List Int→af
 | none,_ => .aC 0 [] .nil
 | some (g,cap,_),l=>eu g l.length cap
def jQ:q7→List Int→a'
 | none,_=>[]
 | some (g,_,eg),l=>[(.own g,.box 3 (l.map bb++eg))]
def se:q7→List Int→Prop
 | none,l=>l=[]
 | some (_,cap,eg),l=>l.length+eg.length=cap
structure fV where
 sp:List Int
 b:Nat
 on:bM
 bt:q7
def iJ (σ:ec) (e:fV):a':=pe e.b (σ e.sp) e.on (la e.bt (σ e.sp).bl)++jQ e.bt (σ e.sp).bl
def m9 (es:List fV):SMap:=es.map fun e=>(e.sp,.ptr e.b 0)
def l5 (σ:ec) (mb:Nat) (es:List fV):a':=q6 mb (m9 es)::es.flatMap (iJ σ)
structure mD (n:Nat) (k:dp):Prop where
 fU:k.fU<2^64
 no:k.no<2^64
 e2:k.e2.length≤n
 bl:k.bl.length≤n
 num : -1000000000≤k.low∧k.low≤1000000000 ∧ -1000000001≤k.high∧k.high≤1000000000
structure pf (n:Nat) (σ:ec) (es:List fV):Prop where
 four:∀ e∈es,e.sp.length=4
 nodup:(es.map fV.sp).Nodup
 rest:∀ q,q∉es.map fV.sp→σ q=iX
 bt:∀ e∈es,se e.bt (σ e.sp).bl
 mE:∀ q,mD n (σ q)
theorem VU {es:List fV} {sp:List Int}:(m9 es).find? (fun e=>e.1==sp)=none↔sp∉es.map fV.sp:=by
 unfold m9;rw [at0];constructor
 ·intro h hm
  obtain ⟨e,he,rfl⟩:=ad7.1 hm;have:=h _ (ad7.2 ⟨e,he,rfl⟩);simp at this
 ·intro h x ab
  obtain ⟨e,he,rfl⟩:=ad7.1 ab;simp only [beq_iff_eq];intro b1;exact h (ad7.2 ⟨e,he,b1⟩)
theorem VV {es:List fV} {sp:List Int} {x:List Int×af} (h:(m9 es).find? (fun e=>e.1==sp)=some x):∃ e∈es,e.sp=sp∧x=(e.sp,.ptr e.b 0):=by
 unfold m9 at h;have U:=aq4 h;have ae:=au3 h;obtain ⟨e,he,rfl⟩:=ad7.1 U;exact ⟨e,he,by simpa using ae,rfl⟩
theorem VW (n:Nat):mD n iX:=⟨by decide,by decide,by simp [iX],by simp [iX],by simp [iX]⟩
theorem Mz (w:bx) (mb n:Nat) (σ:ec) (es:List fV) (cH:pf n σ es) (hL ek dj dT:Int) :
    bE d0 280 [h6 w mb,iI [hL,ek,dj,dT]] (l5 σ mb es) (fun o K=>∃ pre e post,e.sp=[hL,ek,dj,dT]∧o = .ret (.ptr e.b 0)∧K=l5 σ mb (pre++e::post)∧pf n σ (pre++e::post)):=by
  have h:=Mt (.aC 1 [] .nil) (.aC 0 [] .nil) (aS.nil gW) aM w mb (m9 es) (fun e he=>by
    unfold m9 at he
    obtain ⟨x,ab,rfl⟩:=ad7.1 he
    exact cH.four x ab) hL ek dj dT
  refine bE.frame h (R:=es.flatMap (iJ σ)) (.cons .here .nil) ?_;rintro o aO (⟨x,ab,rfl,rfl⟩|⟨aZ,b,rfl,rfl⟩)
  · obtain ⟨e,he,U,rfl⟩:=VV ab
    obtain ⟨pre,post,rfl⟩:=ar3 he;exact ⟨[],_,by simp,aj7.refl _,pre,e,post,U,rfl,rfl,cH⟩
  · have lJ:=VU.1 aZ
    have AL:=cH.rest _ lJ;refine ⟨[(.nil,.row 3 1 0)],l5 σ mb (es++[⟨[hL,ek,dj,dT],b,.nil,none⟩]),by simp,?_,es,⟨[hL,ek,dj,dT],b,.nil,none⟩,[],rfl,rfl,rfl,?_⟩
    · have cb:iJ σ ⟨[hL,ek,dj,dT],b,.nil,none⟩=[(.own b,.box 340 Ms),(.nil,.row 3 1 0)]:=by
        unfold iJ;rw [AL];rfl
      unfold l5;rw [as5,List.flatMap_singleton,cb];have b1:m9 (es++[⟨[hL,ek,dj,dT],b,.nil,none⟩])=m9 es++[([hL,ek,dj,dT],.ptr b 0)]:=by unfold m9;rw [ac2];rfl
      rw [b1];refine (aj7.swap _ _ _).trans (aj7.cons _ ((aj7.swap _ _ _).trans ?_));exact ap7 (l₁:=[(.own b,.box 340 Ms),(.nil,.row 3 1 0)]) (l₂:=es.flatMap (iJ σ))
    · refine ⟨fun e he=>?_,?_,fun q bq=>cH.rest q (fun hm=>bq (by rw [ac2];exact ai5 _ hm)),fun e he=>?_,cH.mE⟩
      · rcases ac9.1 he with he|he
        · exact cH.four e he
        · rw [z2] at he;subst he;rfl
      · rw [ac2,am4]
        refine ⟨cH.nodup,by simp,fun a a8 b aq=>?_⟩;rw [List.map_singleton,z2] at aq;subst aq;intro e;subst e;exact lJ a8
      · rcases ac9.1 he with he|he
        · exact cH.bt e he
        · rw [z2] at he;subst he
          show (σ _).bl=[];rw [AL];rfl
theorem VX (_u:Unit):aR d0 304 [.int .u64 0] (.int .i64 0):=by
 have aq:=bC;refine aR.bj ai Tryz.func304 C C fun s I=>?_
 refine bB ?_;refine aa.zI ai 0 C C C C C C C C dW C ?_;refine bB ?_;exact bm I
theorem VY (_u:Unit):aR d0 290 [.int .u64 0] (.int .i64 0):=by
 have aq:=bC;refine aR.bj ai Tryz.func290 C C fun s I=>?_
 have U:=VX ();refine bZ ?_;exact bm I
theorem VZ (_u:Unit):aR d0 294 [.aC 0 [] .nil,.int .i64 0,.int .i64 0] (.cu []):=by
 have aq:=bC;refine aR.bj ai Tryz.func294 C C fun s I=>?_
 refine gg ?_;refine ad.b0 [1,2] C I (σ:=Unit) (fun _=>[(6,.int .i64 1)]) (fun _=>[]) (fun _=>True) (fun _=>0) () trivial (ck C) aY ?_;rintro _ _ I;refine bB ?_;exact bm I
theorem V0 (_u:Unit):aR d0 289 [.aC 0 [] .nil,.int .i64 0,.int .i64 0,.int .i64 0] (.cu []):=by
 have aq:=bC;refine aR.bj ai Tryz.func289 C C fun s I=>?_
 have U:=VZ ();refine gg ?_;refine ad.b0 [0,1,2,3] C I (σ:=Unit) (fun _=>[]) (fun _=>[]) (fun _=>True) (fun _=>0) () trivial (ck C) aY ?_;rintro _ _ I;refine bZ ?_;exact bm I
theorem V1 (_u:Unit):aR d0 276 [.aC 0 [] .nil] (.cu []):=by
 have aq:=bC;refine aR.bj ai Tryz.func276 C C fun s I=>?_
 have U:=VY ();have ae:=V0 ();refine bZ ?_;exact bm I
def q8 (fj:ko) (up:List Int):Prop:=∀ n,oe fj n=if up.contains n then some (.bool true) else none
theorem q8.put {fj:ko} {up:List Int} (h:q8 fj up) (x:Int):q8 (r3 fj x (.bool true)) (up++[x]):=fun n=>by
 rw [Gz,h n];by_cases e:n=x
 ·subst e;simp
 ·rw [d9 e]
  have:(up++[x]).contains n=up.contains n:=by
   rw [ad3];simp [e]
  rw [this]
theorem q8.look {fj:ko} {up:List Int} (h:q8 fj up) (n:Int):jb (pV fj) (.int .i64 n)=some (if up.contains n then some (.bool true) else none):=by rw [uT,h n]
theorem A2 (l:List Int):(l.map bb).all fa=true:=by rw [List.all_map];simp [Function.comp_def,bb,fa]
structure MA (p:bP):Prop where
 iV:p.cl.length≤10
 each:∀ c∈p.cl,c.parents.length≤3∧c.bl.length≤4
theorem V2 (p:bP) (aE:MA p) (c:Nat) (aA:c<p.cl.length):aR d0 256 [cJ p,.int .i64 ((c:Int)+3)] (bg (o8 p c)):=by
 have aq:=bC;refine aR.bj ai Tryz.func256 C C fun s I=>?_
 have qX:=aE.iV;unfold cJ cL
 repeat (first|(refine rQ ?_)|refine aa.jL I C C C C C C (fun b I=>?_)|(refine zZ ?_))
 refine aa.rN I C C C C (fun mb I=>?_);refine dS ?_;refine aa.mW ai I C C (.inr C) C C C C C C a1 C (uU ((c:Int)+3) (.bool true) []) (fun I=>?_);refine dC ?_;refine ad.b0 [2] C I (σ:=Nat×List Int×List Int×q7×ko) (fun q=>[(7,.int .i64 ((q.1:Int)+2)),(5,.map mb),(6,la q.2.2.2.1 q.2.2.1)]) (fun q=>[(.own b,.box 27 (cL p)),(.own mb,.map (pV q.2.2.2.2))]++jQ q.2.2.2.1 q.2.2.1)
  (fun q=>q.1≤c+1∧oh p.cl q.1 q.2.1 q.2.2.1=oh p.cl (c+1) [(c:Int)+3] []∧q8 q.2.2.2.2 q.2.1∧se q.2.2.2.1 q.2.2.1∧q.2.2.1.length+4*q.1≤4*(c+1)) (fun q=>q.1) (c+1,[(c:Int)+3],[],none,[((c:Int)+3,.bool true)])
  ⟨i0 _,rfl,fun n=>by unfold oe;by_cases e:n=(c:Int)+3<;>simp [e],rfl,by simp⟩ ⟨⟨_,rfl,aS.of_eq cE⟩,⟨_,rfl,aM⟩,⟨_,rfl,aM⟩,trivial⟩ (by simp only [jQ,d7,cL];exact aY) ?_
 rintro ⟨k,up,out,bt,fj⟩ ⟨aD,ak,p2,dd,gh⟩ I;simp only at aD ak p2 dd gh I ⊢;unfold cL at I ⊢;refine ht ?_;refine ad.cond C (fun ar=>?_) (fun aV=>?_);rotate_left
 ·have aV:k=0:=by simp at aV;omega
  subst aV;have ak:out=oh p.cl (c+1) [(c:Int)+3] []:=ak;have aF:o8 p c=o7 out:=by unfold o8;rw [← ak]
  rw [aF];rcases bt with _|⟨g,cap,eg⟩
  ·have:out=[]:=dd
   subst this;have U:=V1 ();have ae:=GB [] .nil;have ae:=aR.args (show cR [.aC 0 [] .nil] [.aC 1 [] .nil] from .one (aS.nil gW)) ae;refine c3 ?_;rw [show o7 []=[] by unfold o7;simp];exact Fin.cp I C aS.bc
  ·have kC:out.length+eg.length=cap:=dd
   have U:=G' g cap out eg ag;have ae:=GB ((o7 out).map bb) .bc;simp only [jQ,la,ab',d8] at I ⊢;refine c3 ?_;refine aa.b9 rfl rfl rfl rfl rfl U I (.cons a1 .nil) ?_ (fun _ _ ⟨h,_⟩ _=>by cases h);rintro _ _ ⟨⟨⟩,rfl⟩ I;simp only [ab',d8] at I ⊢;have e:((o7 out).map bb++eg).take out.length=(o7 out).map bb:=an6 (by unfold o7;simp);have w4:(o7 out).length=out.length:=by unfold o7;simp
   refine aa.run ai C (aa.nil ?_);refine bY ?_;refine ad.uG I 6 g (cs:=(o7 out).map bb++eg) C .here (by rw [f8,f6];omega) ag ag (by rw [e];exact A2 _) (fun I=>?_);rw [e];refine c3 ?_;exact Fin.cp I C aS.bc
 have ar:1≤k:=by simp at ar;omega
 obtain ⟨i,rfl⟩:∃ i,k=i+1:=⟨k-1,by omega⟩;have lb:=p2.look ((i:Int)+3);have aw:oh p.cl (i+1) up out=if up.contains ((i:Int)+3) then oh p.cl i (up++(p.cl.getD i default).parents) (out++(p.cl.getD i default).bl) else oh p.cl i up out:=rfl
 rw [aw] at ak;have MB:(((i+1:Nat):Int)+2)=(i:Int)+3:=by omega
 rw [MB];have tH:i<p.cl.length:=by omega
 obtain ⟨dU,ct,A3⟩:=bV (f:=ji) tH;have kj:p.cl.getD i default=dU:=by rw [d6,ct];rfl
 rw [kj] at ak;obtain ⟨LX,hD⟩:=aE.each dU (d5 ct);have df:H1 .i64 ((i:Int)+3-3)=(i:Int):=by rw [eo ag ag];omega
 have kl:H1 .i64 ((i:Int)+3-1)=(i:Int)+2:=by rw [eo ag ag];omega
 refine dC ?_;cases sf:up.contains ((i:Int)+3) with
 | false=>
  rw [sf] at ak lb;simp only [ad4,if_false] at ak lb;refine aa.jw ai I C C C C C C C C C C (.there .here) C lb C ?_;refine c3 ?_;exact bn.mk (i,up,out,bt,fj) I ⟨by omega,ak,p2,dd,by show out.length+4*i≤4*(c+1);omega⟩ Dv (aH.du _) (by show i<i+1;omega)
 | true=>
  rw [sf] at ak lb;simp only [if_true] at ak lb;unfold ji m4 bg at A3;refine aa.jw ai I C C C C C C C C C C (.there .here) C lb C ?_;refine cG I ?_;intro I;refine aa.idx ai i C C C C C C C C C C df A3 C ?_;refine dS ?_;rcases bt with _|⟨g,cap,eg⟩
  ·have br:out=[]:=dd
   by_cases Ha:dU.bl=[]
   ·refine aa.n0 28 (.aC 1 [] .bc) C (aS.of_eq (by rw [Ha];rfl)) ?_
    refine aa.Gv ai C C C C C C C et C C C ?_;have w5:se none (out++dU.bl):=by rw [br,Ha];rfl
    refine cG I ?_;intro I;refine aa.idx ai i C C C C C C C C C C df A3 C ?_;refine dC ?_;refine ad.b0 [2,5,6,7,36,37] C I (σ:=Nat×ko) (fun q=>[(38,.int .i64 (q.1:Int))]) (fun q=>(.own mb,.map (pV q.2))::(.own b,.box 27 (cL p))::jQ none (out++dU.bl)) (fun q=>q.1≤dU.parents.length∧q8 q.2 (up++dU.parents.take q.1)) (fun q=>dU.parents.length-q.1) (0,fj) ⟨g7 _,by rw [aj2,d7];exact p2⟩ (ck C) (.cons (.there .here) (.cons .here .nil)) ?_;rintro ⟨k,A4⟩ ⟨ik,oo⟩ I;simp only [cL] at ik oo I ⊢;refine ht ?_;refine ad.cond C (fun cC=>?_) (fun dm=>?_)
    ·have cC:k<dU.parents.length:=by simpa using cC
     obtain ⟨x,ab,bL⟩:=bV (f:=bb) cC;unfold bb at bL;refine dC ?_;refine aa.mW ai I C C (.inl C) C C C C C C .here C (uU _ _ _) (fun I=>?_);refine c3 ?_;exact bn.mk (k+1,_) I ⟨cC,by rw [iH ab,← ae'];exact oo.put x⟩ b' (aH.du _) G9
    ·have dm:k=dU.parents.length:=by simp at dm;omega
     subst dm;rw [ac6] at oo;refine c3 ?_;exact bn.mk (i,up++dU.parents,out++dU.bl,none,A4) I ⟨by omega,ak,oo,w5,by show (out++dU.bl).length+4*i≤4*(c+1);rw [f8];omega⟩ Dv (.cons (.there .here) (.cons .here (aH.du _))) (by show i<i+1;omega)
   ·have x3:1≤dU.bl.length:=by
     rcases bO:dU.bl with _|⟨z,a1⟩
     ·exact absurd bO Ha
     ·simp
    refine aa.Gt ai I C C C C C C C et C C C C C C (A2 _) (by rw [f6];exact x3) (by show _*8≤_;rw [f6];omega) u0 (fun aX cf cs' U ae an I=>?_)
    obtain ⟨eg,rfl⟩:∃ eg,cs'=(out++dU.bl).map bb++eg:=⟨cs'.drop (dU.bl.map bb).length,by
     have:=ag5 (dU.bl.map bb).length cs'
     rw [an] at this
     rw [br];exact this.symm⟩
    have w5:se (some (aX,cf,eg)) (out++dU.bl):=by show (out++dU.bl).length+eg.length=cf;rw [f8,f6] at U;exact U
    refine aa.n0 29 (la (some (aX,cf,eg)) (out++dU.bl)) C (aS.of_eq (by show eu aX _ cf=eu aX _ cf;rw [br,f6];rfl)) ?_;refine cG I ?_;intro I;refine aa.idx ai i C C C C C C C C C C df A3 C ?_;refine dC ?_;refine ad.b0 [2,5,6,7,36,37] C I (σ:=Nat×ko) (fun q=>[(38,.int .i64 (q.1:Int))]) (fun q=>(.own mb,.map (pV q.2))::(.own b,.box 27 (cL p))::jQ (some (aX,cf,eg)) (out++dU.bl)) (fun q=>q.1≤dU.parents.length∧q8 q.2 (up++dU.parents.take q.1)) (fun q=>dU.parents.length-q.1) (0,fj) ⟨g7 _,by rw [aj2,d7];exact p2⟩ (ck C) (.cons (.there (.there .here)) (.cons (.there .here) (.cons .here .nil))) ?_;rintro ⟨k,A4⟩ ⟨ik,oo⟩ I;simp only [cL] at ik oo I ⊢;refine ht ?_;refine ad.cond C (fun cC=>?_) (fun dm=>?_)
    ·have cC:k<dU.parents.length:=by simpa using cC
     obtain ⟨x,ab,bL⟩:=bV (f:=bb) cC;unfold bb at bL;refine dC ?_;refine aa.mW ai I C C (.inl C) C C C C C C .here C (uU _ _ _) (fun I=>?_);refine c3 ?_;exact bn.mk (k+1,_) I ⟨cC,by rw [iH ab,← ae'];exact oo.put x⟩ b' (aH.du _) G9
    ·have dm:k=dU.parents.length:=by simp at dm;omega
     subst dm;rw [ac6] at oo;refine c3 ?_;exact bn.mk (i,up++dU.parents,out++dU.bl,(some (aX,cf,eg)),A4) I ⟨by omega,ak,oo,w5,by show (out++dU.bl).length+4*i≤4*(c+1);rw [f8];omega⟩ Dv (.cons (.there .here) (.cons .here (aH.du _))) (by show i<i+1;omega)
  ·have kC:out.length+eg.length=cap:=dd
   refine aa.Gu (n:=out.length) (cap:=cap) (cs:=out.map bb++eg) ai I C C C C C C C et C C C C (.there (.there .here)) (by rw [f8,f6];exact kC) ag (by rw [an6 ba];exact A2 _) C C (A2 _) (by show _*8≤_;rw [f6];omega) u0 (fun aX cf cs' U ae an I=>?_);rw [an6 ba] at an
   obtain ⟨m',rfl⟩:∃ eg,cs'=(out++dU.bl).map bb++eg:=⟨cs'.drop (out.length+(dU.bl.map bb).length),by
    have:=ag5 (out.length+(dU.bl.map bb).length) cs'
    rw [an] at this
    rw [ac2];exact this.symm⟩
   have w5:se (some (aX,cf,m')) (out++dU.bl):=by show (out++dU.bl).length+m'.length=cf;rw [f8,f6] at U;exact U
   refine aa.n0 29 (la (some (aX,cf,m')) (out++dU.bl)) C (aS.of_eq (by show eu aX _ cf=eu aX _ cf;rw [f6,f8])) ?_;refine cG I ?_;intro I;refine aa.idx ai i C C C C C C C C C C df A3 C ?_;refine dC ?_;refine ad.b0 [2,5,6,7,36,37] C I (σ:=Nat×ko) (fun q=>[(38,.int .i64 (q.1:Int))]) (fun q=>(.own mb,.map (pV q.2))::(.own b,.box 27 (cL p))::jQ (some (aX,cf,m')) (out++dU.bl)) (fun q=>q.1≤dU.parents.length∧q8 q.2 (up++dU.parents.take q.1)) (fun q=>dU.parents.length-q.1) (0,fj) ⟨g7 _,by rw [aj2,d7];exact p2⟩ (ck C) (.cons (.there (.there .here)) (.cons (.there .here) (.cons .here .nil))) ?_;rintro ⟨k,A4⟩ ⟨ik,oo⟩ I;simp only [cL] at ik oo I ⊢;refine ht ?_;refine ad.cond C (fun cC=>?_) (fun dm=>?_)
   ·have cC:k<dU.parents.length:=by simpa using cC
    obtain ⟨x,ab,bL⟩:=bV (f:=bb) cC;unfold bb at bL;refine dC ?_;refine aa.mW ai I C C (.inl C) C C C C C C .here C (uU _ _ _) (fun I=>?_);refine c3 ?_;exact bn.mk (k+1,_) I ⟨cC,by rw [iH ab,← ae'];exact oo.put x⟩ b' (aH.du _) G9
   ·have dm:k=dU.parents.length:=by simp at dm;omega
    subst dm;rw [ac6] at oo;refine c3 ?_;exact bn.mk (i,up++dU.parents,out++dU.bl,(some (aX,cf,m')),A4) I ⟨by omega,ak,oo,w5,by show (out++dU.bl).length+4*i≤4*(c+1);rw [f8];omega⟩ Dv (.cons (.there .here) (.cons .here (aH.du _))) (by show i<i+1;omega)
def Dy (b:Bool):eB:=if b then .ret (.cu []) else .panic tA
theorem gP {x:af} {b:Bool} (h:eB.ret x=Dy b):b=true∧x = .cu []:=by
 cases b with
 | true=>cases h;exact ⟨rfl,rfl⟩
 | false=>cases h
theorem gQ {x:af} {b:Bool} (h:eB.panic x=Dy b):b=false∧x=tA:=by
 cases b with
 | true=>cases h
 | false=>cases h;exact ⟨rfl,rfl⟩
theorem ha (b:Bool):bE d0 223 [.bool b] [] (fun o K=>K=[]∧o=Dy b):=by
 cases b with
 | true=>exact fun s I=>hi.mono (UT () s) (fun o al ⟨U,ae⟩=>⟨[],ae,trivial,rfl,U⟩)
 | false=>exact bE.mono (UU ()) (fun o K ⟨U,ae⟩=>⟨ae,U⟩)
theorem Hb {cs:List fK} (h:∀ c∈cs,c.bl.length≤4):∀ (k:Nat) (up out:List Int),(oh cs k up out).length≤out.length+4*k
  | 0,_,_=>i0 _
  | k+1,up,out=>by
    rw [oh];split
    · have U:=Hb h k (up++(cs.getD k default).parents) (out++(cs.getD k default).bl)
      have ae:(cs.getD k default).bl.length≤4:=by
        rw [d6];cases aA:cs[k]? with
        | none=>exact g7 _
        | some c=>exact h c (d5 aA)
      rw [f8] at U;omega
    · have:=Hb h k up out
      omega
theorem V3 (p:bP) (aE:fN p):bE d0 222 [cJ p] [] (fun o K=>K=[]∧o=Dy (o9 p)):=by
 have aq:=bC;have aw:=LY p aE;have jO:(hd p).length=p.cl.length:=by unfold hd;simp
 have yC:=Uz (hd p) (by rw [jO];exact aE.cls);have cH:o9 p=(decide (p.cl.length≤10)&&((lC 0 p.cl==some p.bl)&&(mw (hd p)&&qW p 0 p.cl))):=rfl;refine bE.bj ai Tryz.func222 C C fun s I=>?_
 unfold cJ cL at *;unfold cV at *;refine dL ?_;refine aa.b9 C C C C C (ha _) I .nil ?_ ?_;rotate_left
 ·rintro _ _ ⟨rfl,h⟩ I
  obtain ⟨az,rfl⟩:=gQ h;rw [d8] at I ⊢;exact Fin.fc I aM .nil ⟨rfl,(by rw [cH,show decide (p.cl.length≤10)=false by simp at az ⊢;omega];rfl)⟩
 rintro _ _ ⟨rfl,h⟩ I;obtain ⟨U,rfl⟩:=gP h;rw [d8] at I ⊢;have U:p.cl.length≤10:=by simp at U;omega
 rw [show decide (p.cl.length≤10)=true by simpa using U,f0] at cH;refine bB ?_;refine ad.b0 [1,22,23] C I (σ:=Nat×Nat) (fun q=>[(24,.int .i64 (q.1:Int)),(2,.int .i64 (q.2:Int))]) (fun _=>[]) (fun q=>q.1≤p.cl.length∧lC 0 p.cl=lC (q.2:Int) (p.cl.drop q.1)∧q.2≤4*q.1) (fun q=>p.cl.length-q.1) (0,0) ⟨g7 _,rfl,i0 _⟩ (ck C) aY ?_;rintro ⟨j,n⟩ ⟨aK,ak,Hc⟩ I;simp only at aK ak Hc I ⊢;refine b2 ?_;refine ad.cond C (fun ar=>?_) (fun aV=>?_)
 ·have ar:j<p.cl.length:=by simpa using ar
  obtain ⟨c,ay,c'⟩:=bV (f:=ji) ar;rw [drop_cons ay,lC] at ak;unfold ji m4 bg at c';refine ea ?_;refine aa.b9 C C C C C (ha _) I .nil ?_ ?_;rotate_left
  ·rintro _ _ ⟨rfl,h⟩ I
   obtain ⟨az,rfl⟩:=gQ h;rw [d8] at I ⊢;exact Fin.fc I aM .nil ⟨rfl,(by rw [d9 (by simp at az;omega)] at ak;rw [cH,ak];rfl)⟩
  rintro _ _ ⟨rfl,h⟩ I;obtain ⟨ae,rfl⟩:=gP h;rw [d8] at I ⊢;have ae:c.bl.length≤4:=by simp at ae;omega
  rw [f9 ae] at ak;refine bB ?_;refine ad.b0 [1,22,23,24,34,35] C I (σ:=Nat×Nat) (fun q=>[(36,.int .i64 (q.1:Int)),(2,.int .i64 (q.2:Int))]) (fun _=>[]) (fun q=>q.1≤c.bl.length∧nH (n:Int) c.bl=nH (q.2:Int) (c.bl.drop q.1)∧q.2≤n+q.1) (fun q=>c.bl.length-q.1) (0,n) ⟨g7 _,rfl,i0 _⟩ (ck C) aY ?_;rintro ⟨k,m⟩ ⟨aD,bh,MC⟩ I;simp only at aD bh MC I ⊢;refine b2 ?_;refine ad.cond C (fun cC=>?_) (fun dm=>?_)
  ·have cC:k<c.bl.length:=by simpa using cC
   obtain ⟨x,ab,bL⟩:=bV (f:=bb) cC;rw [drop_cons ab,nH] at bh;unfold bb at bL;refine dC ?_;refine aa.b9 C C C C C (ha _) I .nil ?_ ?_;rotate_left
   ·rintro _ _ ⟨rfl,h⟩ I
    obtain ⟨az,rfl⟩:=gQ h;rw [d8] at I ⊢;exact Fin.fc I aM .nil ⟨rfl,(by rw [d9 sc] at bh;rw [bh] at ak;rw [cH,ak];rfl)⟩
   rintro _ _ ⟨rfl,h⟩ I;obtain ⟨an,rfl⟩:=gP h;rw [d8] at I ⊢;have an:x=(m:Int):=by simpa using an
   rw [f9 an] at bh;refine fu ?_;exact bn.mk (k+1,m+1) I ⟨cC,by rw [bh];push_cast;rfl,by show m+1≤n+(k+1);omega⟩ (by repeat (first|exact trivial|refine ⟨⟨_,rfl,aM⟩,?_⟩|refine ⟨⟨_,rfl,aS.of_eq (by (first|rw [jv ag]|(rw [eo ag ag];push_cast;rfl)))⟩,?_⟩)) aY Df
  ·have dm:k=c.bl.length:=by simp at dm;omega
   subst dm;rw [ef (i0 _),nH] at bh;rw [bh] at ak;refine bB ?_;exact bn.mk (j+1,m) I ⟨ar,ak,by show m≤4*(j+1);omega⟩ b' aY yl
 have aV:j=p.cl.length:=by simp at aV;omega
 subst aV;rw [ef (i0 _),lC] at ak;rw [ak] at cH;refine c3 ?_;cases Hd:((n:Int)==p.bl) with
 | false=>
  have He:(some (n:Int)==some p.bl)=false:=by rw [← Hd];rfl
  rw [He,f5] at cH;refine ew ?_;refine aa.b9 C C C C C (ha _) I .nil ?_ ?_;rotate_left
  ·rintro _ _ ⟨rfl,h⟩ I
   obtain ⟨az,rfl⟩:=gQ h;rw [d8] at I ⊢;exact Fin.fc I aM .nil ⟨rfl,(by rw [cH];rfl)⟩
  rintro _ _ ⟨rfl,h⟩ I;obtain ⟨an,rfl⟩:=gP h;rw [d8] at I ⊢;cases an
 | true=>
 have He:(some (n:Int)==some p.bl)=true:=by rw [← Hd];rfl
 rw [He,f0] at cH;have dd:=GI ak;cases yD:mw (hd p) with
 | false=>
  rw [yD,f5] at cH;rw [yD] at yC;simp only [ad4,if_false] at yC;refine c3 ?_;refine aa.b9 C C C C C (ha _) I .nil ?_ ?_;rotate_left
  ·rintro _ _ ⟨rfl,h⟩ I
   obtain ⟨az,rfl⟩:=gQ h;rw [d8] at I ⊢;exact Fin.fc I aM .nil ⟨rfl,(by rw [cH];rfl)⟩
  rintro _ _ ⟨rfl,h⟩ I;obtain ⟨an,rfl⟩:=gP h;rw [d8] at I ⊢;exact absurd an dW
 | true=>
 rw [yD,f0] at cH;rw [yD] at yC;simp only [if_true] at yC;have mj:=Am yD
 have uW:MA p:=⟨U,fun c aA=>⟨by
  obtain ⟨i,aQ⟩:=ag3 aA
  exact (mj.par i c.parents (by unfold hd;rw [ad2,aQ];rfl)).1,dd c aA⟩⟩
 have yE:=fun c aA=>UA (hd p) yD c aA
 unfold cV at yE;refine c3 ?_;refine aa.b9 C C C C C (ha _) I .nil ?_ ?_;rotate_left
 ·rintro _ _ ⟨rfl,h⟩ I
  obtain ⟨az,rfl⟩:=gQ h;rw [d8] at I ⊢;exact Fin.fc I aM .nil ⟨rfl,(by exact absurd az dW)⟩
 rintro _ _ ⟨rfl,h⟩ I;obtain ⟨an,rfl⟩:=gP h;rw [d8] at I ⊢;clear an;refine bB ?_;refine ad.b0 [1,7,61,62] C I (σ:=Nat) (fun j=>[(63,.int .i64 (j:Int))]) (fun _=>[]) (fun j=>j≤p.cl.length∧o9 p=qW p j (p.cl.drop j)) (fun j=>p.cl.length-j) 0 ⟨g7 _,cH⟩ (ck C) aY ?_;rintro j ⟨aK,ak⟩ I;refine b2 ?_;refine ad.cond C (fun ar=>?_) (fun aV=>?_);rotate_left
 ·have aV:j=p.cl.length:=by simp at aV;omega
  subst aV;rw [ef (i0 _),qW] at ak;refine dB ?_;exact Fin.bz I C aM .nil ⟨rfl,by rw [ak];rfl⟩
 have ar:j<p.cl.length:=by simpa using ar
 obtain ⟨c,ay,c'⟩:=bV (f:=ji) ar;rw [drop_cons ay,qW] at ak;unfold GH at ak;have w6:=yE (j+3) ag;have my:(fE (hd p) (2+(hd p).length)).getD (j+3) []=yr p (j+3):=rfl;rw [my] at w6;have iG:H1 .i64 ((j:Int)+3)=((j+3:Nat):Int):=by rw [eo ag ag];omega
 rw [← iG] at w6;have mA:=V2 p uW j ar;have mA:aR d0 256 [cJ p,.int .i64 (H1 .i64 ((j:Int)+3))] (bg (o8 p j)):=by rw [iG];exact mA
 unfold cJ cL bg at mA;unfold ji m4 bg at c';unfold LG at w6;cases Dz:(yr p (j+3)).isEmpty with
 | true=>
  rw [Dz,f9 C] at w6;rw [Dz] at ak
  repeat (first|(refine wy I ?_;clear I;intro I)|refine aa.d' ai I rfl rfl rfl rfl rfl rfl rfl (fun cy I=>?_)|(refine pM ?_))
  refine aa.b9 C C C C C (ha _) I .nil ?_ ?_;rotate_left
  ·rintro _ _ ⟨rfl,h⟩ I
   obtain ⟨az,rfl⟩:=gQ h;rw [d8] at I ⊢;exact Fin.fc I aM .nil ⟨rfl,(by rw [ak];rfl)⟩
  rintro _ _ ⟨rfl,h⟩ I;obtain ⟨an,rfl⟩:=gP h;rw [d8] at I ⊢;exact absurd an dW
 | false=>
 rw [Dz,d9 ba] at w6;rw [Dz,ah0,f0] at ak;unfold bg at w6
 repeat (first|(refine wy I ?_;clear I;intro I)|refine aa.d' ai I rfl rfl rfl rfl rfl rfl rfl (fun cy I=>?_)|(refine pM ?_))
 refine aa.b9 C C C C C (ha _) I .nil ?_ ?_;rotate_left
 ·rintro _ _ ⟨rfl,h⟩ I
  obtain ⟨az,rfl⟩:=gQ h;rw [d8] at I ⊢;exact Fin.fc I aM .nil ⟨rfl,(by exact absurd az dW)⟩
 rintro _ _ ⟨rfl,h⟩ I;obtain ⟨an,rfl⟩:=gP h;rw [d8] at I ⊢;clear an;refine c3 ?_;refine aa.rN I C C C C (fun mb I=>?_);refine cG I ?_;intro I;have hy:(o8 p j).length≤40:=by
  have:=Hb dd (j+1) [(j:Int)+3] [];unfold o8 o7;rw [ap8];simp only [ae0] at this;omega
 have ib:=fun n=>yd (o8 p j) n ag
 unfold bg at ib;generalize o8 p j=wR at mA ak hy ib I ⊢;have MB:=(aE.each c (d5 ay)).2.2;refine ad.b0 [1,7,12,13,61,62,63,84,85] C I (σ:=Nat×ko) (fun q=>[(86,.int .i64 (q.1:Int))]) (fun q=>[(.own mb,.map (pV q.2))]) (fun q=>q.1≤c.inits.length∧q8 q.2 ((c.inits.take q.1).map iT.slot)∧qV wR [] c.inits=qV wR ((c.inits.take q.1).map iT.slot) (c.inits.drop q.1)) (fun q=>c.inits.length-q.1) (0,[]) ⟨g7 _,fun n=>rfl,rfl⟩ (ck C) aY ?_;rintro ⟨k,fj⟩ ⟨aD,p2,bh⟩ I;simp only at aD p2 bh I ⊢;refine b2 ?_;refine ad.cond C (fun cC=>?_) (fun dm=>?_);rotate_left
 ·have dm:k=c.inits.length:=by simp at dm;omega
  subst dm;rw [ef (i0 _),qV] at bh;rw [bh,f0] at ak;refine bB ?_;exact bn.mk (j+1) I ⟨ar,ak⟩ b' aY yl
 have cC:k<c.inits.length:=by simpa using cC
 obtain ⟨x,ab,bL⟩:=bV (f:=wL) cC;rw [drop_cons ab,qV] at bh;unfold wL at bL;have MD:=ib x.slot;have lb:=p2.look x.slot;have k9:=LW x.n;cases u2:wR.contains x.slot with
 | false=>
  rw [u2] at MD;rw [u2,f5] at bh;rw [bh,f5] at ak;refine ea ?_;refine aa.b9 C C C C C (ha _) I .nil ?_ ?_;rotate_left
  ·rintro _ _ ⟨rfl,h⟩ I
   obtain ⟨az,rfl⟩:=gQ h;rw [d8] at I ⊢;exact Fin.fc I aM .nil ⟨rfl,(by rw [ak];rfl)⟩
  rintro _ _ ⟨rfl,h⟩ I;obtain ⟨an,rfl⟩:=gP h;rw [d8] at I ⊢;exact absurd an dW
 | true=>
 rw [u2] at MD;rw [u2,f0] at bh;cases tD:((c.inits.take k).map iT.slot).contains x.slot with
 | true=>
  rw [tD] at lb;rw [tD,ah7,f5] at bh;rw [bh,f5] at ak;refine ea ?_;refine aa.jw ai I C C C C C C C C C C a1 C lb C ?_;refine ew ?_;refine aa.b9 C C C C C (ha _) I .nil ?_ ?_;rotate_left
  ·rintro _ _ ⟨rfl,h⟩ I
   obtain ⟨az,rfl⟩:=gQ h;rw [d8] at I ⊢;exact Fin.fc I aM .nil ⟨rfl,(by rw [ak];rfl)⟩
  rintro _ _ ⟨rfl,h⟩ I;obtain ⟨an,rfl⟩:=gP h;rw [d8] at I ⊢;exact absurd an dW
 | false=>
 rw [tD] at lb;rw [tD,ah0,f0] at bh;simp only [ad4,if_false] at lb;refine ea ?_;refine aa.jw ai I C C C C C C C C C C a1 C lb C ?_;refine c3 ?_;refine aa.b9 C C C C C (ha _) I .nil ?_ ?_;rotate_left
 ·rintro _ _ ⟨rfl,h⟩ I
  obtain ⟨az,rfl⟩:=gQ h;rw [d8] at I ⊢;exact Fin.fc I aM .nil ⟨rfl,(by rw [az,f5] at bh;rw [bh,f5] at ak;rw [ak];rfl)⟩
 rintro _ _ ⟨rfl,h⟩ I;obtain ⟨an,rfl⟩:=gP h;rw [d8] at I ⊢;rw [an,f0] at bh;refine ht ?_;refine aa.mW ai I C C (.inl C) C C C C C C a1 C (uU _ _ _) (fun I=>?_);refine fu ?_;have hH:(c.inits.take (k+1)).map iT.slot=(c.inits.take k).map iT.slot++[x.slot]:=by rw [iH ab,ac2];rfl
 exact bn.mk (k+1,_) I ⟨cC,by show q8 _ ((c.inits.take (k+1)).map iT.slot);rw [hH];exact p2.put x.slot,by show _=qV wR ((c.inits.take (k+1)).map iT.slot) _;rw [hH];exact bh⟩ b' aY (by show c.inits.length-(k+1)<c.inits.length-k;omega)
def w7 (n:Int):af := .iface 277 (.int .i64 n)
def w8 (op:Int):af:=
 if op=5 then .iface 279 (.agg [])
 else if op=1∨op=2∨op=3∨op=6∨op=18 then w7 0
 else if op=4∨op=8∨op=17 then w7 1
 else if op=7∨op=9∨op=11∨op=12∨op=13∨op=14∨op=15∨op=16 then w7 2
 else if op=10 then w7 3
 else .nR
theorem V4 (op:Int):aR d0 228 [.int .i64 op] (w8 op):=by
 have aq:=bC;refine aR.bj ai Tryz.func228 C C fun s I=>?_
 by_cases aF:1≤op∧op≤18
 ·have h:op=1∨op=2∨op=3∨op=4∨op=5∨op=6∨op=7∨op=8∨op=9∨op=10∨op=11∨op=12∨op=13∨op=14∨op=15∨op=16∨op=17∨op=18:=by omega
  clear aF;rcases h with rfl|rfl|rfl|rfl|rfl|rfl|rfl|rfl|rfl|rfl|rfl|rfl|rfl|rfl|rfl|rfl|rfl|rfl
  all_goals
   refine bB ?_;exact bm I
 ·have aD:w8 op = .nR:=by
   unfold w8;rw [d9 ag,d9 ag,d9 ag,d9 ag,d9 ag]
  rw [aD]
  repeat (first|(refine CT ?_)|refine ad.cond C (fun h=>absurd h cE) (fun _=>?_))
  exact bm I
theorem ME (n:Int) (p:bP) (x:iU):aR d0 335 [.int .i64 n,cJ p,jj x] (.int .i64 n):=by
 have aq:=bC;refine aR.bj ai Tryz.func335 C C fun s I=>?_
 unfold cJ cL jj k4;refine gH ?_;exact bm I
theorem MF (p:bP) (x:iU) (k:Nat) (g:Int) (ab:x.n=(k:Int)) (aD:p.dw[k]? = some g):aR d0 336 [.agg [],cJ p,jj x] (.int .i64 g):=by
 have aq:=bC;refine aR.bj ai Tryz.func336 C C fun s I=>?_
 have eG:(p.dw.map bb)[k]? = some (.int .i64 g):=by rw [ad2,aD];rfl
 unfold cJ cL jj k4 bg;rw [ab];refine bB ?_;exact bm I
def cK (b:Nat) (cs:List af):a':=[(.own b,.box 3 cs)]
def V5 (b:Nat) (eg:List af) (r:Option (List Int)) (o:eB) (K:a'):Prop:=
 match r with
 | some out=>o = .ret (.bool true)∧K=cK b (out.map bb++eg)
 | none=>o = .ret (.bool false)∧∃ cs,K=cK b cs
theorem V6 {out:List Int} {eg:List af} {n:Nat} (h:n<out.length) (v:Int):eU (n*1) [.int .i64 v] (out.map bb++eg)=(out.set n v).map bb++eg:=by
 rw [ag7,pT,av6 _ _ (by rw [f6];exact h),an2];rfl
theorem Hf {out:List Int} {eg:List af} {n:Nat} (h:n<out.length):(out.map bb++eg)[n*1]? = some (.int .i64 (out.getD n 0)):=by
 rw [ag7,ad6 (by rw [f6];exact h),ad2,d6,g6 h];rfl
theorem Hg {p:bP} {n:Int} {out:List Int} (h:pa p n out=true):0≤n∧n<(p.nodes.length:Int)∧out.getD n.toNat 0<0:=by
 unfold pa at h;simp only [f7,g8] at h;omega
theorem Hh {p:bP} {next:Bool} {n size:Int} {out:List Int} (h:pa p n out=false):∀ f,visitM p next f n size out=none
 | 0=>rfl
 | f+1=>by rw [visitM,h];rfl
theorem MG (p:bP) (aE:fN p) (nX:p.nodes.length≤120) (next:Bool) (b:Nat) (eg:List af) (cap:Nat):∀ (f:Nat),f≤12→∀ (n size:Int),0≤size→size+f≤15→∀ (out:List Int),out.length=p.nodes.length →
  bE d0 138 [cJ p,.int .i64 n,.int .i64 size,.int .i64 ((13-f:Nat):Int),.bool next,eu b p.nodes.length cap] (cK b (out.map bb++eg)) (V5 b eg (visitM p next f n size out)):=by
 have aq:=bC;intro f
 induction f with
 | zero=>
  intro _ n size k1 kY out gh;refine bE.bj ai Tryz.func138 C C fun s I=>?_
  rw [visitM];unfold cJ cL cK;unfold cK at I;refine dL ?_;by_cases br:n<0
  ·refine aa.ds 18 C (by simpa using br) ?_
   refine ew ?_;exact Fin.bz (K:=cK b _) I C aM (by simp only [cK];exact aY) ⟨rfl,_,rfl⟩
  refine aa.c2 18 C (by simpa using br) ?_;refine dS ?_;by_cases U:n<(p.nodes.length:Int);rotate_left
  ·refine aa.ds 25 C cE ?_
   refine ew ?_;exact Fin.bz (K:=cK b _) I C aM (by simp only [cK];exact aY) ⟨rfl,_,rfl⟩
  refine aa.c2 25 C cE ?_;refine dS ?_;refine aa.fo ai n.toNat C C C C C C C C C ag ag ?_;refine aa.j7 ai I C C C C C C a1 C (Hf ag) ?_;refine dS ?_;by_cases ae:out.getD n.toNat 0≥0
  ·refine aa.ds 32 C qg ?_
   refine ew ?_;exact Fin.bz (K:=cK b _) I C aM (by simp only [cK];exact aY) ⟨rfl,_,rfl⟩
  refine aa.c2 32 C qg ?_;refine ew ?_;exact Fin.bz (K:=cK b _) I C aM (by simp only [cK];exact aY) ⟨rfl,_,rfl⟩
 | succ f a6=>
 intro aZ n size k1 kY out gh;refine bE.bj ai Tryz.func138 C C fun s I=>?_
 unfold cJ cL cK;unfold cK at I;refine dL ?_;by_cases br:n<0
 ·refine aa.ds 18 C (by simpa using br) ?_
  rw [Hh (by rw [ad0];intro h;have:=Hg h;omega)];refine ew ?_;exact Fin.bz (K:=cK b _) I C aM (by simp only [cK];exact aY) ⟨rfl,_,rfl⟩
 refine aa.c2 18 C (by simpa using br) ?_;refine dS ?_;by_cases U:n<(p.nodes.length:Int);rotate_left
 ·refine aa.ds 25 C cE ?_
  rw [Hh (by rw [ad0];intro h;have:=Hg h;omega)];refine ew ?_;exact Fin.bz (K:=cK b _) I C aM (by simp only [cK];exact aY) ⟨rfl,_,rfl⟩
 refine aa.c2 25 C cE ?_;refine dS ?_;refine aa.fo ai n.toNat C C C C C C C C C ag ag ?_;refine aa.j7 ai I C C C C C C a1 C (Hf ag) ?_;refine dS ?_;by_cases ae:out.getD n.toNat 0≥0
 ·refine aa.ds 32 C qg ?_
  rw [Hh (by rw [ad0];intro h;have:=Hg h;omega)];refine ew ?_;exact Fin.bz (K:=cK b _) I C aM (by simp only [cK];exact aY) ⟨rfl,_,rfl⟩
 refine aa.c2 32 C qg ?_;have dn:pa p n out=true:=by
  unfold pa;simp only [f7,g8];omega
 rw [visitM,f9 dn];obtain ⟨q,rfl⟩:∃ q:Nat,n=q:=⟨n.toNat,by omega⟩;rw [ac0];obtain ⟨x,ab,bL⟩:=bV (f:=jj) (l:=p.nodes) (j:=q) ag;have Hi:p.nodes.getD q default=x:=by rw [d6,ab];rfl
 rw [Hi,Vn];have sg:=aE.kids x (d5 ab);refine fI ?_;refine ad.cond C (fun h=>by simp at h;omega) (fun _=>?_);refine dC ?_;refine aa.fo ai q C C C C C C C C C C ag ?_;refine aa.j8 ai I ((out.set q size).map bb++eg) C C C C C C C C C a1 (by rw [f8,f6];show q*1+1≤_;omega) (V6 ag size) (fun I=>?_);have nD:(out.set q size).length=p.nodes.length:=by rw [ad'];exact gh
 generalize out.set q size=yF at I nD ⊢;have an:=Vr p x;have bd:=Vp p aE x size;unfold cJ cL jj k4 bg at an bd;unfold jj k4 bg at bL;refine ea ?_;by_cases g1:(x.kids.length:Int)=tE p x;rotate_left
 ·refine aJ.split 52 C (fun _=>?_) (fun h=>absurd h (by simpa using g1))
  rw [t8 g1,f5,d9 ba];refine hk ?_;exact Fin.bz (K:=cK b _) I C aM (by simp only [cK];exact aY) ⟨rfl,_,rfl⟩
 refine aJ.split 52 C (fun h=>absurd g1 fZ) (fun _=>?_);rw [i6 g1,f0];cases g2:m6 p x size with
 | false=>
  rw [g2] at bd;rw [f5,d9 ba];refine bZ ?_;exact Fin.bz (K:=cK b _) I C aM (by simp only [cK];exact aY) ⟨rfl,_,rfl⟩
 | true=>
 rw [g2] at bd;rw [f0];refine c3 ?_;cases next with
 | true=>
  rw [ao3];by_cases w9:x.op=18
  ·refine aJ.split 63 C (fun _=>?_) (fun h=>absurd w9 fZ)
   rw [f9 C];refine bZ ?_;refine ad.b0 [1,2,3,4,5,6,13] C I (σ:=Nat×List Int) (fun q=>[(14,.int .i64 (q.1:Int))]) (fun q=>cK b (q.2.map bb++eg)) (fun q=>q.1≤x.kids.length∧q.2.length=p.nodes.length∧lD (visitM p true f) (decide (x.op=9)) size 0 x.kids yF=lD (visitM p true f) (decide (x.op=9)) size q.1 (x.kids.drop q.1) q.2) (fun q=>x.kids.length-q.1) (0,yF) ⟨g7 _,nD,rfl⟩ (ck C) (by simp only [cK];exact aY) ?_;rintro ⟨j,bR⟩ ⟨aK,rL,ak⟩ I
   try simp only at aK rL ak I ⊢
   unfold cK at I ⊢;refine b2 ?_;refine ad.cond C (fun ar=>?_) (fun aV=>?_);rotate_left
   ·have aV:j=x.kids.length:=by simp at aV;omega
    rw [ef ag,lD] at ak;rw [ak];refine dB ?_;exact Fin.bz (K:=cK b _) I C aM (by simp only [cK];exact aY) ⟨rfl,rfl⟩
   have ar:j<x.kids.length:=by simpa using ar
   obtain ⟨k,aD,eG⟩:=bV (f:=bb) ar;rw [drop_cons aD,lD] at ak;unfold bb at eG;have c1:=fun s U ae=>a6 ag k s U ae bR rL
   have ax:((13-f:Nat):Int)=H1 .i64 (((13-(f+1):Nat):Int)+1):=by rw [eo ag ag];omega
   rw [ax] at c1;unfold cJ cL cK at c1;refine bB ?_;by_cases kp:x.op=9
   ·refine aa.ds 79 C (by simpa using kp) ?_
    refine fI ?_;refine ad.cond C (fun U=>?_) (fun U=>?_)
    ·have U:j=1:=by simp at U;omega
     rw [show (decide (x.op=9)&&j==1)=true by simp [kp,U],f9 C] at ak;have c1:=c1 (size+1) ag ag;have A5:size+1=H1 .i64 (size+1):=by rw [eo ag ag]
     rw [A5] at c1 ak;refine oX ?_;cases av:visitM p true f k (H1 .i64 (size+1)) bR with
     | none=>
      rw [av] at c1;rw [av,ag0] at ak;rw [ak];skip;refine aJ.kM rfl rfl rfl rfl rfl rfl c1 I (aH.all _) ?_ (fun _ _ ⟨h,_⟩ _=>by cases h);rintro _ _ ⟨⟨⟩,cs,rfl⟩ I;rw [d7] at I ⊢;unfold cK at I ⊢;refine hk ?_;exact Fin.bz (K:=cK b _) I C aM (by simp only [cK];exact aY) ⟨rfl,_,rfl⟩
     | some fi=>
      have pK:=q1 ag av;rw [av] at c1;rw [av,ah2] at ak;skip;refine aJ.kM rfl rfl rfl rfl rfl rfl c1 I (aH.all _) ?_ (fun _ _ ⟨h,_⟩ _=>by cases h);rintro _ _ ⟨⟨⟩,rfl⟩ I;rw [d7] at I ⊢;unfold cK at I ⊢;refine jN ?_;exact bn.mk (j+1,fi) I ⟨ar,by show fi.length=_;omega,ak⟩ b' (by simp only [cK];exact aY) p8
    ·have U:j≠1:=by simp at U;omega
     rw [show (decide (x.op=9)&&j==1)=false by simp [U],d9 ba] at ak;have c1:=c1 size ag ag;refine oX ?_;cases av:visitM p true f k size bR with
     | none=>
      rw [av] at c1;rw [av,ag0] at ak;rw [ak];skip;refine aJ.kM rfl rfl rfl rfl rfl rfl c1 I (aH.all _) ?_ (fun _ _ ⟨h,_⟩ _=>by cases h);rintro _ _ ⟨⟨⟩,cs,rfl⟩ I;rw [d7] at I ⊢;unfold cK at I ⊢;refine hk ?_;exact Fin.bz (K:=cK b _) I C aM (by simp only [cK];exact aY) ⟨rfl,_,rfl⟩
     | some fi=>
      have pK:=q1 ag av;rw [av] at c1;rw [av,ah2] at ak;skip;refine aJ.kM rfl rfl rfl rfl rfl rfl c1 I (aH.all _) ?_ (fun _ _ ⟨h,_⟩ _=>by cases h);rintro _ _ ⟨⟨⟩,rfl⟩ I;rw [d7] at I ⊢;unfold cK at I ⊢;refine jN ?_;exact bn.mk (j+1,fi) I ⟨ar,by show fi.length=_;omega,ak⟩ b' (by simp only [cK];exact aY) p8
   ·refine aa.c2 79 C (by simpa using kp) ?_
    rw [show (decide (x.op=9)&&j==1)=false by simp [kp],d9 ba] at ak;have c1:=c1 size ag ag;refine oX ?_;cases av:visitM p true f k size bR with
    | none=>
     rw [av] at c1;rw [av,ag0] at ak;rw [ak];skip;refine aJ.kM rfl rfl rfl rfl rfl rfl c1 I (aH.all _) ?_ (fun _ _ ⟨h,_⟩ _=>by cases h);rintro _ _ ⟨⟨⟩,cs,rfl⟩ I;rw [d7] at I ⊢;unfold cK at I ⊢;refine hk ?_;exact Fin.bz (K:=cK b _) I C aM (by simp only [cK];exact aY) ⟨rfl,_,rfl⟩
    | some fi=>
     have pK:=q1 ag av;rw [av] at c1;rw [av,ah2] at ak;skip;refine aJ.kM rfl rfl rfl rfl rfl rfl c1 I (aH.all _) ?_ (fun _ _ ⟨h,_⟩ _=>by cases h);rintro _ _ ⟨⟨⟩,rfl⟩ I;rw [d7] at I ⊢;unfold cK at I ⊢;refine jN ?_;exact bn.mk (j+1,fi) I ⟨ar,by show fi.length=_;omega,ak⟩ b' (by simp only [cK];exact aY) p8
  ·refine aJ.split 63 C (fun h=>absurd fZ w9) (fun _=>?_)
   rw [f9 C];refine bZ ?_;refine ad.b0 [1,2,3,4,5,6,13] C I (σ:=Nat×List Int) (fun q=>[(14,.int .i64 (q.1:Int))]) (fun q=>cK b (q.2.map bb++eg)) (fun q=>q.1≤x.kids.length∧q.2.length=p.nodes.length∧lD (visitM p true f) (decide (x.op=9)) size 0 x.kids yF=lD (visitM p true f) (decide (x.op=9)) size q.1 (x.kids.drop q.1) q.2) (fun q=>x.kids.length-q.1) (0,yF) ⟨g7 _,nD,rfl⟩ (ck C) (by simp only [cK];exact aY) ?_;rintro ⟨j,bR⟩ ⟨aK,rL,ak⟩ I
   try simp only at aK rL ak I ⊢
   unfold cK at I ⊢;refine b2 ?_;refine ad.cond C (fun ar=>?_) (fun aV=>?_);rotate_left
   ·have aV:j=x.kids.length:=by simp at aV;omega
    rw [ef ag,lD] at ak;rw [ak];refine dB ?_;exact Fin.bz (K:=cK b _) I C aM (by simp only [cK];exact aY) ⟨rfl,rfl⟩
   have ar:j<x.kids.length:=by simpa using ar
   obtain ⟨k,aD,eG⟩:=bV (f:=bb) ar;rw [drop_cons aD,lD] at ak;unfold bb at eG;have c1:=fun s U ae=>a6 ag k s U ae bR rL
   have ax:((13-f:Nat):Int)=H1 .i64 (((13-(f+1):Nat):Int)+1):=by rw [eo ag ag];omega
   rw [ax] at c1;unfold cJ cL cK at c1;refine bB ?_;by_cases kp:x.op=9
   ·refine aa.ds 79 C (by simpa using kp) ?_
    refine fI ?_;refine ad.cond C (fun U=>?_) (fun U=>?_)
    ·have U:j=1:=by simp at U;omega
     rw [show (decide (x.op=9)&&j==1)=true by simp [kp,U],f9 C] at ak;have c1:=c1 (size+1) ag ag;have A5:size+1=H1 .i64 (size+1):=by rw [eo ag ag]
     rw [A5] at c1 ak;refine oX ?_;cases av:visitM p true f k (H1 .i64 (size+1)) bR with
     | none=>
      rw [av] at c1;rw [av,ag0] at ak;rw [ak];skip;refine aJ.kM rfl rfl rfl rfl rfl rfl c1 I (aH.all _) ?_ (fun _ _ ⟨h,_⟩ _=>by cases h);rintro _ _ ⟨⟨⟩,cs,rfl⟩ I;rw [d7] at I ⊢;unfold cK at I ⊢;refine hk ?_;exact Fin.bz (K:=cK b _) I C aM (by simp only [cK];exact aY) ⟨rfl,_,rfl⟩
     | some fi=>
      have pK:=q1 ag av;rw [av] at c1;rw [av,ah2] at ak;skip;refine aJ.kM rfl rfl rfl rfl rfl rfl c1 I (aH.all _) ?_ (fun _ _ ⟨h,_⟩ _=>by cases h);rintro _ _ ⟨⟨⟩,rfl⟩ I;rw [d7] at I ⊢;unfold cK at I ⊢;refine jN ?_;exact bn.mk (j+1,fi) I ⟨ar,by show fi.length=_;omega,ak⟩ b' (by simp only [cK];exact aY) p8
    ·have U:j≠1:=by simp at U;omega
     rw [show (decide (x.op=9)&&j==1)=false by simp [U],d9 ba] at ak;have c1:=c1 size ag ag;refine oX ?_;cases av:visitM p true f k size bR with
     | none=>
      rw [av] at c1;rw [av,ag0] at ak;rw [ak];skip;refine aJ.kM rfl rfl rfl rfl rfl rfl c1 I (aH.all _) ?_ (fun _ _ ⟨h,_⟩ _=>by cases h);rintro _ _ ⟨⟨⟩,cs,rfl⟩ I;rw [d7] at I ⊢;unfold cK at I ⊢;refine hk ?_;exact Fin.bz (K:=cK b _) I C aM (by simp only [cK];exact aY) ⟨rfl,_,rfl⟩
     | some fi=>
      have pK:=q1 ag av;rw [av] at c1;rw [av,ah2] at ak;skip;refine aJ.kM rfl rfl rfl rfl rfl rfl c1 I (aH.all _) ?_ (fun _ _ ⟨h,_⟩ _=>by cases h);rintro _ _ ⟨⟨⟩,rfl⟩ I;rw [d7] at I ⊢;unfold cK at I ⊢;refine jN ?_;exact bn.mk (j+1,fi) I ⟨ar,by show fi.length=_;omega,ak⟩ b' (by simp only [cK];exact aY) p8
   ·refine aa.c2 79 C (by simpa using kp) ?_
    rw [show (decide (x.op=9)&&j==1)=false by simp [kp],d9 ba] at ak;have c1:=c1 size ag ag;refine oX ?_;cases av:visitM p true f k size bR with
    | none=>
     rw [av] at c1;rw [av,ag0] at ak;rw [ak];skip;refine aJ.kM rfl rfl rfl rfl rfl rfl c1 I (aH.all _) ?_ (fun _ _ ⟨h,_⟩ _=>by cases h);rintro _ _ ⟨⟨⟩,cs,rfl⟩ I;rw [d7] at I ⊢;unfold cK at I ⊢;refine hk ?_;exact Fin.bz (K:=cK b _) I C aM (by simp only [cK];exact aY) ⟨rfl,_,rfl⟩
    | some fi=>
     have pK:=q1 ag av;rw [av] at c1;rw [av,ah2] at ak;skip;refine aJ.kM rfl rfl rfl rfl rfl rfl c1 I (aH.all _) ?_ (fun _ _ ⟨h,_⟩ _=>by cases h);rintro _ _ ⟨⟨⟩,rfl⟩ I;rw [d7] at I ⊢;unfold cK at I ⊢;refine jN ?_;exact bn.mk (j+1,fi) I ⟨ar,by show fi.length=_;omega,ak⟩ b' (by simp only [cK];exact aY) p8
 | false=>
  by_cases w9:x.op=18
  ·rw [show (decide (x.op≠18)||false)=false by simp [w9],d9 ba]
   refine aJ.split 63 C (fun _=>?_) (fun h=>absurd w9 fZ);refine hk ?_;exact Fin.bz (K:=cK b _) I C aM (by simp only [cK];exact aY) ⟨rfl,_,rfl⟩
  ·rw [show (decide (x.op≠18)||false)=true by simp [w9]]
   refine aJ.split 63 C (fun h=>absurd fZ w9) (fun _=>?_);rw [f9 C];refine bZ ?_;refine ad.b0 [1,2,3,4,5,6,13] C I (σ:=Nat×List Int) (fun q=>[(14,.int .i64 (q.1:Int))]) (fun q=>cK b (q.2.map bb++eg)) (fun q=>q.1≤x.kids.length∧q.2.length=p.nodes.length∧lD (visitM p false f) (decide (x.op=9)) size 0 x.kids yF=lD (visitM p false f) (decide (x.op=9)) size q.1 (x.kids.drop q.1) q.2) (fun q=>x.kids.length-q.1) (0,yF) ⟨g7 _,nD,rfl⟩ (ck C) (by simp only [cK];exact aY) ?_;rintro ⟨j,bR⟩ ⟨aK,rL,ak⟩ I
   try simp only at aK rL ak I ⊢
   unfold cK at I ⊢;refine b2 ?_;refine ad.cond C (fun ar=>?_) (fun aV=>?_);rotate_left
   ·have aV:j=x.kids.length:=by simp at aV;omega
    rw [ef ag,lD] at ak;rw [ak];refine dB ?_;exact Fin.bz (K:=cK b _) I C aM (by simp only [cK];exact aY) ⟨rfl,rfl⟩
   have ar:j<x.kids.length:=by simpa using ar
   obtain ⟨k,aD,eG⟩:=bV (f:=bb) ar;rw [drop_cons aD,lD] at ak;unfold bb at eG;have c1:=fun s U ae=>a6 ag k s U ae bR rL
   have ax:((13-f:Nat):Int)=H1 .i64 (((13-(f+1):Nat):Int)+1):=by rw [eo ag ag];omega
   rw [ax] at c1;unfold cJ cL cK at c1;refine bB ?_;by_cases kp:x.op=9
   ·refine aa.ds 79 C (by simpa using kp) ?_
    refine fI ?_;refine ad.cond C (fun U=>?_) (fun U=>?_)
    ·have U:j=1:=by simp at U;omega
     rw [show (decide (x.op=9)&&j==1)=true by simp [kp,U],f9 C] at ak;have c1:=c1 (size+1) ag ag;have A5:size+1=H1 .i64 (size+1):=by rw [eo ag ag]
     rw [A5] at c1 ak;refine oX ?_;cases av:visitM p false f k (H1 .i64 (size+1)) bR with
     | none=>
      rw [av] at c1;rw [av,ag0] at ak;rw [ak];skip;refine aJ.kM rfl rfl rfl rfl rfl rfl c1 I (aH.all _) ?_ (fun _ _ ⟨h,_⟩ _=>by cases h);rintro _ _ ⟨⟨⟩,cs,rfl⟩ I;rw [d7] at I ⊢;unfold cK at I ⊢;refine hk ?_;exact Fin.bz (K:=cK b _) I C aM (by simp only [cK];exact aY) ⟨rfl,_,rfl⟩
     | some fi=>
      have pK:=q1 ag av;rw [av] at c1;rw [av,ah2] at ak;skip;refine aJ.kM rfl rfl rfl rfl rfl rfl c1 I (aH.all _) ?_ (fun _ _ ⟨h,_⟩ _=>by cases h);rintro _ _ ⟨⟨⟩,rfl⟩ I;rw [d7] at I ⊢;unfold cK at I ⊢;refine jN ?_;exact bn.mk (j+1,fi) I ⟨ar,by show fi.length=_;omega,ak⟩ b' (by simp only [cK];exact aY) p8
    ·have U:j≠1:=by simp at U;omega
     rw [show (decide (x.op=9)&&j==1)=false by simp [U],d9 ba] at ak;have c1:=c1 size ag ag;refine oX ?_;cases av:visitM p false f k size bR with
     | none=>
      rw [av] at c1;rw [av,ag0] at ak;rw [ak];skip;refine aJ.kM rfl rfl rfl rfl rfl rfl c1 I (aH.all _) ?_ (fun _ _ ⟨h,_⟩ _=>by cases h);rintro _ _ ⟨⟨⟩,cs,rfl⟩ I;rw [d7] at I ⊢;unfold cK at I ⊢;refine hk ?_;exact Fin.bz (K:=cK b _) I C aM (by simp only [cK];exact aY) ⟨rfl,_,rfl⟩
     | some fi=>
      have pK:=q1 ag av;rw [av] at c1;rw [av,ah2] at ak;skip;refine aJ.kM rfl rfl rfl rfl rfl rfl c1 I (aH.all _) ?_ (fun _ _ ⟨h,_⟩ _=>by cases h);rintro _ _ ⟨⟨⟩,rfl⟩ I;rw [d7] at I ⊢;unfold cK at I ⊢;refine jN ?_;exact bn.mk (j+1,fi) I ⟨ar,by show fi.length=_;omega,ak⟩ b' (by simp only [cK];exact aY) p8
   ·refine aa.c2 79 C (by simpa using kp) ?_
    rw [show (decide (x.op=9)&&j==1)=false by simp [kp],d9 ba] at ak;have c1:=c1 size ag ag;refine oX ?_;cases av:visitM p false f k size bR with
    | none=>
     rw [av] at c1;rw [av,ag0] at ak;rw [ak];skip;refine aJ.kM rfl rfl rfl rfl rfl rfl c1 I (aH.all _) ?_ (fun _ _ ⟨h,_⟩ _=>by cases h);rintro _ _ ⟨⟨⟩,cs,rfl⟩ I;rw [d7] at I ⊢;unfold cK at I ⊢;refine hk ?_;exact Fin.bz (K:=cK b _) I C aM (by simp only [cK];exact aY) ⟨rfl,_,rfl⟩
    | some fi=>
     have pK:=q1 ag av;rw [av] at c1;rw [av,ah2] at ak;skip;refine aJ.kM rfl rfl rfl rfl rfl rfl c1 I (aH.all _) ?_ (fun _ _ ⟨h,_⟩ _=>by cases h);rintro _ _ ⟨⟨⟩,rfl⟩ I;rw [d7] at I ⊢;unfold cK at I ⊢;refine jN ?_;exact bn.mk (j+1,fi) I ⟨ar,by show fi.length=_;omega,ak⟩ b' (by simp only [cK];exact aY) p8
theorem V7 {g:List (List Int)} {i:Nat} {l:List Int} (aB:g[i]? = some l) (h:3<l.length):mw g=false:=by
 rw [ad0];intro aw;have:=(Am aw).par i l aB;omega
theorem V8 (p:bP) (aE:fN p):aR d0 136 [cJ p] (.bool (o9 p)):=by
 have aq:=bC;have e4:o9 p=(decide (p.cl.length≤10)&&((lC 0 p.cl==some p.bl)&&(mw (hd p)&&qW p 0 p.cl))):=rfl;have ct:=aE.cls;have jO:(hd p).length=p.cl.length:=f6 _;have dE:=Mc p aE;have MH:=To (hd p) ag;have gO:=fun h=>AS p aE h
 refine aR.bj ai Tryz.func136 C C fun s I=>?_
 unfold cJ cL eF eO cV bg at *;refine b2 ?_;refine ad.cond C (fun h=>?_) (fun h=>?_)
 ·rw [show decide (p.cl.length≤10)=false by simp at h ⊢;omega,f5] at e4
  refine gH ?_;exact Fin.cp I C (aS.of_eq (congrArg af.bool e4.symm))
 have MI:p.cl.length≤10:=by simp at h;omega
 rw [i6 MI,f0] at e4;refine jh ?_;refine ad.b0 [1] C I (σ:=Nat×Int) (fun q=>[(4,.int .i64 (q.1:Int)),(3,.int .i64 q.2)]) (fun _=>[]) (fun q=>q.1≤p.cl.length∧lC 0 p.cl=lC q.2 (p.cl.drop q.1)∧0≤q.2∧q.2≤4*q.1) (fun q=>p.cl.length-q.1) (0,0) ⟨g7 _,rfl,ai0 _,by omega⟩ (ck C) aY ?_;rintro ⟨j,n⟩ ⟨aK,ak,ye,Hc⟩ I
 try simp only at aK ak ye Hc I ⊢
 refine b2 ?_;refine ad.cond C (fun ar=>?_) (fun aV=>?_)
 ·have ar:j<p.cl.length:=by simpa using ar
  obtain ⟨c,aA,m3⟩:=bV (f:=ji) ar;obtain ⟨cb,b1,eV⟩:=aE.each c (d5 aA);rw [drop_cons aA,lC] at ak;unfold ji m4 bg at m3;refine dC ?_;by_cases bd:c.bl.length≤4;rotate_left
  ·rw [d9 bd] at ak
   rw [ak,show (none==some p.bl)=false from rfl,f5] at e4;refine aa.ds 36 C cE ?_;refine e5 ?_;exact Fin.cp I C (aS.of_eq (congrArg af.bool e4.symm))
  rw [f9 bd] at ak;refine aa.c2 36 C cE ?_;refine dC ?_;refine ad.cond C (fun an=>?_) (fun an=>?_)
  ·have an:3<c.parents.length:=by simp at an;omega
   rw [V7 (g:=hd p) (i:=j) (l:=c.parents) (by unfold hd;rw [ad2,aA];rfl) an,f5,ai2] at e4;refine jg ?_;exact Fin.cp I C (aS.of_eq (congrArg af.bool e4.symm))
  refine jh ?_;refine ad.b0 [1,4,5] C I (σ:=Nat) (fun k=>[(6,.int .i64 (k:Int)),(3,.int .i64 (n+k))]) (fun _=>[]) (fun k=>k≤c.bl.length∧nH n c.bl=nH (n+k) (c.bl.drop k)) (fun k=>c.bl.length-k) 0 ⟨g7 _,by rw [aj'];congr 1;omega⟩ (by repeat (first|exact trivial|refine ⟨⟨_,rfl,aM⟩,?_⟩|refine ⟨⟨_,rfl,aS.of_eq (by (congr 1;omega))⟩,?_⟩)) aY ?_;rintro k ⟨aD,bh⟩ I
  try simp only at aD bh I ⊢
  refine b2 ?_;refine ad.cond C (fun cC=>?_) (fun dm=>?_)
  ·have cC:k<c.bl.length:=by simpa using cC
   obtain ⟨y,ay,c'⟩:=bV (f:=bb) cC;rw [drop_cons ay,nH] at bh;unfold bb at c';refine dC ?_;refine ad.cond C (fun cO=>?_) (fun he=>?_)
   ·have cO:y≠n+k:=by simpa using cO
    rw [d9 cO] at bh;rw [ak,bh,ag0,show (none==some p.bl)=false from rfl,f5] at e4;refine jg ?_;exact Fin.cp I C (aS.of_eq (congrArg af.bool e4.symm))
   have he:y=n+k:=by simpa using he
   rw [f9 he] at bh;refine fR ?_;exact bn.mk (k+1) I ⟨cC,by rw [bh];congr 1;push_cast;omega⟩ (by repeat (first|exact trivial|refine ⟨⟨_,rfl,aM⟩,?_⟩|refine ⟨⟨_,rfl,aS.of_eq (by (first|rw [jv ag]|(rw [eo ag ag];congr 1;push_cast;omega)))⟩,?_⟩)) aY Df
  ·have dm:k=c.bl.length:=by simp at dm;omega
   rw [ef ag,nH] at bh;rw [bh,ah2] at ak;refine bB ?_;exact bn.mk (j+1,n+k) I ⟨ar,ak,by show 0≤n+(k:Int);omega,by show n+(k:Int)≤4*((j+1:Nat):Int);omega⟩ b' aY yl
 have aV:j=p.cl.length:=by simp at aV;omega
 rw [ef ag,lC] at ak;rw [ak] at e4;have gh:=(GV (i:=0) ak).1;have gO:=gO ag;refine c3 ?_;by_cases au:n=p.bl;rotate_left
 ·rw [show (some n==some p.bl)=false by simpa using au,f5] at e4
  refine aa.ds 66 C (by simpa using au) ?_;refine ew ?_;exact Fin.cp I C (aS.of_eq (congrArg af.bool e4.symm))
 refine aa.c2 66 C (by simpa using au) ?_;rw [show (some n==some p.bl)=true by simpa using au,f0] at e4;cases kj:mw (hd p) with
 | false=>
  rw [kj,f5] at e4;rw [kj] at MH;refine bZ ?_;exact Fin.cp I C (aS.of_eq (congrArg af.bool e4.symm))
 | true=>
 rw [kj,f0] at e4;rw [kj] at MH;have mj:=Am kj;have lG:=LV MI ak kj;subst au;have MJ:=fun c aA=>Tx (hd p) mj c aA
 have MK:=fun c bt o U ae=>GN (b6 p) lG c bt o U ae
 have V9:=fun i h s=>Vm ak lG (i:=i) h s
 have hIn:=fun n=>Mb n
 have o6:(b6 p).ps.length=p.cl.length:=jO;have mn:((b6 p).owner.length:Int)=p.bl:=by
  have:(b6 p).owner=fF 0 p.cl:=rfl;rw [this];omega
 unfold eF eO cV bg at MK;unfold cV bg at MJ;refine ea ?_;refine ad.b0 [1,3,7,8] C I (σ:=Nat) (fun j=>[(9,.int .i64 (j:Int))]) (fun _=>[]) (fun j=>j≤p.cl.length∧qW p 0 p.cl=qW p j (p.cl.drop j)) (fun j=>p.cl.length-j) 0 ⟨g7 _,rfl⟩ (ck C) aY ?_;rintro i ⟨aQ,cD⟩ I
 try simp only at aQ cD I ⊢
 refine b2 ?_;refine ad.cond C (fun ar=>?_) (fun aV=>?_);rotate_left
 ·have aV:i=p.cl.length:=by simp at aV;omega
  rw [ef ag,qW] at cD;rw [cD] at e4;refine dB ?_;exact Fin.cp I C (aS.of_eq (congrArg af.bool e4.symm))
 have ar:i<p.cl.length:=by simpa using ar
 obtain ⟨c,aA,m3⟩:=bV (f:=ji) ar;obtain ⟨cb,b1,eV⟩:=aE.each c (d5 aA);rw [drop_cons aA,qW,GH] at cD;have yE:=MJ (3+i) ag;have iG:(((3+i:Nat):Int))=H1 .i64 ((i:Int)+3):=by rw [eo ag ag];omega
 have hle:yr p (i+3)=(fE (hd p) (2+(hd p).length)).getD (3+i) []:=by unfold yr;rw [an1 3 i]
 rw [← hle,iG] at yE;unfold ji m4 bg at m3;cases he:(yr p (i+3)).isEmpty with
 | true=>
  rw [he] at yE;rw [he,ah7,f5,f5] at cD;rw [cD] at e4;refine bZ ?_;exact Fin.cp I C (aS.of_eq (congrArg af.bool e4.symm))
 | false=>
 rw [he] at yE;rw [he,ah0,f0] at cD;refine bZ ?_;refine ad.b0 [1,3,7,8,9,10,13] C I (σ:=Nat) (fun k=>[(14,.int .i64 (k:Int))]) (fun _=>[]) (fun k=>k≤c.inits.length∧qV (o8 p i) [] c.inits=qV (o8 p i) ((c.inits.take k).map iT.slot) (c.inits.drop k)) (fun k=>c.inits.length-k) 0 ⟨g7 _,rfl⟩ (ck C) aY ?_;rintro k ⟨aD,bh⟩ I
 try simp only at aD bh I ⊢
 refine b2 ?_;refine ad.cond C (fun cC=>?_) (fun dm=>?_);rotate_left
 ·have dm:k=c.inits.length:=by simp at dm;omega
  rw [ef ag,qV] at bh;rw [bh,f0] at cD;refine bB ?_;exact bn.mk (i+1) I ⟨ar,cD⟩ b' aY (by show p.cl.length-(i+1)<p.cl.length-i;omega)
 have cC:k<c.inits.length:=by simpa using cC
 obtain ⟨x,ab,bL⟩:=bV (f:=wL) cC;rw [drop_cons ab,qV,V9 i ar] at bh;unfold wL at bL;refine n4 ?_;by_cases g1:x.slot<0
 ·refine aJ.split 108 C (fun _=>?_) (fun h=>absurd h (by simpa using g1))
  rw [show decide (x.slot≥0)=false by simp;omega,f5,f5] at bh;rw [bh] at cD;rw [f5] at cD;rw [cD] at e4;refine hk ?_;exact Fin.cp I C (aS.of_eq (congrArg af.bool e4.symm))
 refine aJ.split 108 C (fun h=>absurd fZ g1) (fun _=>?_);rw [show decide (x.slot≥0)=true by simp;omega,f0] at bh;refine c3 ?_;by_cases g2:x.slot<p.bl;rotate_left
 ·refine aJ.split 117 C (fun _=>?_) (fun h=>absurd h cE)
  rw [show decide (x.slot<p.bl)=false by simp;omega,f5,f5] at bh;rw [bh] at cD;rw [f5] at cD;rw [cD] at e4;refine hk ?_;exact Fin.cp I C (aS.of_eq (congrArg af.bool e4.symm))
 refine aJ.split 117 C (fun h=>absurd h cE) (fun _=>?_);rw [i6 g2,f0] at bh;obtain ⟨bt,dd⟩:∃ bt:Nat,x.slot=bt:=⟨x.slot.toNat,by omega⟩;obtain ⟨o,ah⟩:∃ o,(b6 p).owner[bt]? = some o:=⟨_,g6 ag⟩;have mM:=lG.own o (d5 ah);obtain ⟨Hj,rfl⟩:∃ q:Nat,o=q:=⟨o.toNat,by omega⟩;have tI:=MK (3+i) bt Hj ag ah;rw [show (b6 p).owner.getD x.slot.toNat 0=(Hj:Int) by rw [dd,ac0,d6,ah];rfl,ac0] at bh;rw [iG,← dd] at tI;cases g3:((ey (b6 p).ps).getD (3+i) 0).testBit Hj with
 | false=>
  rw [g3,f5] at bh;rw [g3] at tI;refine bZ ?_;rw [bh] at cD;rw [f5] at cD;rw [cD] at e4;skip;exact Fin.cp I C (aS.of_eq (congrArg af.bool e4.symm))
 | true=>
 rw [g3,f0] at bh;rw [g3] at tI;have fq:=hIn x.n;cases g4:km x.n with
 | false=>
  rw [g4,f5,ai2] at bh;rw [g4] at fq;refine bZ ?_;rw [bh] at cD;rw [f5] at cD;rw [cD] at e4;skip;exact Fin.cp I C (aS.of_eq (congrArg af.bool e4.symm))
 | true=>
 rw [g4,f0] at bh;rw [g4] at fq;refine bZ ?_;refine ad.b0 [1,3,7,8,9,10,13,14] C I (σ:=Nat) (fun j=>[(15,.int .i64 (j:Int))]) (fun _=>[]) (fun j=>j≤k∧((c.inits.take j).map iT.slot).contains x.slot=false) (fun j=>k-j) 0 ⟨g7 _,by simp⟩ (ck C) aY ?_;rintro j ⟨aK,cj⟩ I
 try simp only at aK cj I ⊢
 refine b2 ?_;refine ad.cond C (fun j6=>?_) (fun kL=>?_);rotate_left
 ·have kL:j=k:=by simp at kL;omega
  subst kL;rw [cj,ah0,f0] at bh;have hH:(c.inits.take (j+1)).map iT.slot=(c.inits.take j).map iT.slot++[x.slot]:=by rw [iH ab,ac2];rfl
  rw [← hH] at bh;refine bB ?_;exact bn.mk (j+1) I ⟨cC,bh⟩ b' aY (by show c.inits.length-(j+1)<c.inits.length-j;omega)
 have j6:j<k:=by simpa using j6
 obtain ⟨y,ay,c'⟩:=bV (f:=wL) (l:=c.inits) (j:=j) ag;unfold wL at c';refine n4 ?_;refine ad.cond C (fun zA=>?_) (fun Hk=>?_)
 ·have zA:y.slot=x.slot:=by simpa using zA
  have:((c.inits.take k).map iT.slot).contains x.slot=true:=by
   rw [af7];refine ad7.2 ⟨y,?_,zA⟩;exact d5 (show (c.inits.take k)[j]? = some y by rw [af',f9 j6,ay])
  rw [this,ah7,f5] at bh;rw [bh] at cD;rw [f5] at cD;rw [cD] at e4;refine jg ?_;exact Fin.cp I C (aS.of_eq (congrArg af.bool e4.symm))
 have Hk:y.slot≠x.slot:=by simpa using Hk
 refine fR ?_;exact bn.mk (j+1) I ⟨j6,by rw [iH ay,ac2,al0,cj,ae9];simpa using Hk.symm⟩ b' aY (by show k-(j+1)<k-j;omega)
def ML (p:bP) (o:eB) (_K:a'):Prop:=∃ v,o = .ret (.cu [v,.bool (fG p)])
theorem V' (p:bP) (aE:fN p):bE d0 93 [cJ p] [] (ML p):=by
 have aq:=bC;have gR:fG p=(nJ p).isSome:=rfl;have cj:nJ p=if o9 p&&p5 p then (nI p p.methods (t7 p.nodes.length (-1))).bind fun out=>(visitM p false 12 p.main 0 out).bind fun out=>if out.contains (-1) then none else some out else none:=rfl
 have bK:p5 p=(decide (p.dw.length≤8)&&(decide (p.methods.length≤16)&&(decide (p.nodes.length≥1)&&(decide (p.nodes.length≤120)&&p.dw.all fun n=>decide (n≥1)&&decide (n≤3))))):=rfl;have e4:=V8 p aE;have gO:=fun h=>AS p aE h
 refine bE.bj ai Tryz.func93 C C fun s I=>?_
 unfold ML;unfold cJ cL eF eO cV bg at *;cases A6:o9 p with
 | false=>
  rw [A6] at e4;rw [A6,f5,d9 ba] at cj;rw [cj] at gR;refine bZ ?_;exact Fin.bz (K:=[]) I C aM .nil ⟨_,by rw [gR];rfl⟩
 | true=>
 rw [A6] at e4;rw [A6,f0] at cj;refine bZ ?_;by_cases g1:p.dw.length≤8;rotate_left
 ·rw [t8 g1,f5] at bK
  rw [bK,d9 ba] at cj;rw [cj] at gR;refine aa.ds 20 C cE ?_;refine ew ?_;exact Fin.bz (K:=[]) I C aM .nil ⟨_,by rw [gR];rfl⟩
 refine aa.c2 20 C cE ?_;rw [i6 g1,f0] at bK;refine dS ?_;by_cases g2:p.methods.length≤16;rotate_left
 ·rw [t8 g2,f5] at bK
  rw [bK,d9 ba] at cj;rw [cj] at gR;refine aa.ds 26 C cE ?_;refine ew ?_;exact Fin.bz (K:=[]) I C aM .nil ⟨_,by rw [gR];rfl⟩
 refine aa.c2 26 C cE ?_;rw [i6 g2,f0] at bK;refine dS ?_;by_cases g3:p.nodes.length≥1;rotate_left
 ·rw [t8 g3,f5] at bK
  rw [bK,d9 ba] at cj;rw [cj] at gR;refine aa.ds 32 C cE ?_;refine ew ?_;exact Fin.bz (K:=[]) I C aM .nil ⟨_,by rw [gR];rfl⟩
 refine aa.c2 32 C cE ?_;rw [i6 g3,f0] at bK;refine fI ?_;refine ad.cond C (fun h=>?_) (fun h=>?_)
 ·rw [show decide (p.nodes.length≤120)=false by simp at h ⊢;omega,f5] at bK
  rw [bK,d9 ba] at cj;rw [cj] at gR;refine gH ?_;exact Fin.bz (K:=[]) I C aM .nil ⟨_,by rw [gR];rfl⟩
 have g4:p.nodes.length≤120:=by simp at h;omega
 rw [i6 g4,f0] at bK;refine jh ?_;refine ad.b0 [1] C I (σ:=Nat) (fun j=>[(4,.int .i64 (j:Int))]) (fun _=>[]) (fun j=>j≤p.dw.length∧(p.dw.all fun n=>decide (n≥1)&&decide (n≤3))=(p.dw.drop j).all fun n=>decide (n≥1)&&decide (n≤3)) (fun j=>p.dw.length-j) 0 ⟨g7 _,rfl⟩ (ck C) aY ?_;rintro j ⟨aK,ak⟩ I
 try simp only at aK ak I ⊢
 refine b2 ?_;refine ad.cond C (fun ar=>?_) (fun aV=>?_)
 ·have ar:j<p.dw.length:=by simpa using ar
  obtain ⟨x,ab,bL⟩:=bV (f:=bb) ar;rw [drop_cons ab,List.all_cons] at ak;unfold bb at bL;refine dC ?_;by_cases U:x≥1;rotate_left
  ·rw [t8 U,f5,f5] at ak
   rw [bK,ak,d9 ba] at cj;rw [cj] at gR;refine aa.ds 51 C cE ?_;refine e5 ?_;exact Fin.bz (K:=[]) I C aM .nil ⟨_,by rw [gR];rfl⟩
  refine aa.c2 51 C cE ?_;rw [i6 U,f0] at ak;refine dC ?_;refine ad.cond C (fun an=>?_) (fun an=>?_)
  ·rw [show decide (x≤3)=false by simp at an ⊢;omega,f5] at ak
   rw [bK,ak,d9 ba] at cj;rw [cj] at gR;refine jg ?_;exact Fin.bz (K:=[]) I C aM .nil ⟨_,by rw [gR];rfl⟩
  rw [show decide (x≤3)=true by simp at an ⊢;omega,f0] at ak;refine fR ?_;exact bn.mk (j+1) I ⟨ar,ak⟩ b' aY (by show p.dw.length-(j+1)<p.dw.length-j;omega)
 have aV:j=p.dw.length:=by simp at aV;omega
 rw [ef ag,List.all_nil] at ak;rw [ak] at bK;rw [bK,f9 C] at cj;have Wa:∀ n∈p.dw,1≤n∧n≤3:=fun n az=>by
  have:=af3.1 ak n az;simpa using this
 clear bK e4;refine bB ?_;refine ad.b0 [1] C I (σ:=Nat×q7) (fun q=>[(6,.int .i64 (q.1:Int)),(5,la q.2 (t7 q.1 (-1)))]) (fun q=>jQ q.2 (t7 q.1 (-1))) (fun q=>q.1≤p.nodes.length∧se q.2 (t7 q.1 (-1))) (fun q=>p.nodes.length-q.1) (0,none) ⟨g7 _,rfl⟩ (ck C) .nil ?_;rintro ⟨lF,bt⟩ ⟨yG,dd⟩ I
 try simp only at yG dd I ⊢
 refine b2 ?_;refine ad.cond C (fun ar=>?_) (fun dm=>?_)
 ·have ar:lF<p.nodes.length:=by simpa using ar
  cases bt with
  | none=>
   have Wb:lF=0:=by
    have:t7 lF (-1:Int)=[]:=dd;simpa using this
   subst Wb;dsimp only [la,jQ] at I ⊢;refine dC ?_;refine aa.CW ai I C C C C C C C et C C C C C C C (by show 1*8≤_;omega) (fun aX cf cs' cA db fe I=>?_);refine fu ?_
   obtain ⟨eg,rfl⟩:∃ eg,cs'=(t7 1 (-1)).map bb++eg:=⟨cs'.drop 1,by
    conv=>lhs;rw [← ag5 1 cs',fe]
    rfl⟩
   exact bn.mk (1,some (aX,cf,eg)) I ⟨by show 1≤p.nodes.length;omega,by show (t7 1 (-1)).length+eg.length=cf;rw [← cA];simp;omega⟩ (by repeat (first|exact trivial|refine ⟨⟨_,rfl,aM⟩,?_⟩|refine ⟨⟨_,rfl,aS.of_eq (by (first|rfl|rw [eo ag ag];rfl))⟩,?_⟩)) (by simp only [jQ];exact aY) (by show p.nodes.length-1<p.nodes.length-0;omega)
  | some t=>
   obtain ⟨b,cap,eg⟩:=t;have dd:(t7 lF (-1:Int)).length+eg.length=cap:=dd;rw [ad9] at dd;dsimp only [la,jQ] at I ⊢;rw [ad9];refine dC ?_;refine aa.CX ai I C C C C C C C et C C C C a1 cE ag G8 C C C (by show _*8≤_;omega) ag (fun aX cf cs' cA db fe I=>?_);refine fu ?_;rw [an6 ba] at fe
   obtain ⟨m',rfl⟩:∃ m',cs'=(t7 (lF+1) (-1)).map bb++m':=⟨cs'.drop (lF+1),by
    conv=>lhs;rw [← ag5 (lF+1) cs',fe]
    rw [am2,ac2];rfl⟩
   exact bn.mk (lF+1,some (aX,cf,m')) I ⟨ar,by show (t7 (lF+1) (-1)).length+m'.length=cf;rw [← cA];simp⟩ (by repeat (first|exact trivial|refine ⟨⟨_,rfl,aM⟩,?_⟩|refine ⟨⟨_,rfl,aS.of_eq (by (first|rw [jv ag]|(simp only [la,ad9])))⟩,?_⟩)) (by simp only [jQ];exact aY) (by show p.nodes.length-(lF+1)<p.nodes.length-lF;omega)
 have dm:lF=p.nodes.length:=by simp at dm;omega
 subst dm;cases bt with
 | none=>
  have:t7 p.nodes.length (-1:Int)=[]:=dd;have:=congrArg List.length this;simp at this;rw [this] at g3;simp at g3
 | some t=>
 obtain ⟨b,cap,eg⟩:=t;have lG:=GJ A6;have gh:(fF 0 p.cl).length<bu:=by
  have:=lG.bl;have e:(b6 p).owner=fF 0 p.cl:=rfl;rw [e] at this;omega
 have gO:=gO gh;have lS:=fun f h=>U8 (b6 p) lG.iV f h
 have yH:=fun f h=>U5 (b6 p) f.size f (i0 _) h
 have aW:=fun k=>Vo k
 unfold eF eO cV bg at lS;dsimp only [la,jQ] at I ⊢;rw [ad9];refine ea ?_;refine ad.b0 [1,5,7] C I (σ:=Nat×List Int) (fun q=>[(8,.int .i64 (q.1:Int))]) (fun q=>cK b (q.2.map bb++eg)) (fun q=>q.1≤p.methods.length∧nI p p.methods (t7 p.nodes.length (-1))=nI p (p.methods.drop q.1) q.2∧q.2.length=p.nodes.length∧∀ x∈q.2,(-1:Int)≤x) (fun q=>p.methods.length-q.1) (0,t7 p.nodes.length (-1)) ⟨g7 _,rfl,ad9,fun x ab=>by rw [(List.mem_replicate.1 ab).2];exact ai0 _⟩ (ck C) (by simp only [cK];exact aY) ?_;rintro ⟨i,out⟩ ⟨aQ,eQ,nD,Hl⟩ I
 try simp only at aQ eQ nD Hl I ⊢
 unfold cK at I ⊢;refine b2 ?_;refine ad.cond C (fun ar=>?_) (fun kL=>?_)
 ·have ar:i<p.methods.length:=by simpa using ar
  obtain ⟨m,hm,Cv⟩:=bV (f:=lB) ar;have tJ:=aE.facts m (d5 hm);rw [drop_cons hm,nI] at eQ;have cH:r5 p m=(decide (m.kind≥1)&&(decide (m.kind≤4)&&(decide (m.gen≥0)&&(decide (m.gen<(p.dw.length:Int))&&(h' (b6 p) m.fact&&decide (iW m.fact≤p.dw.getD m.gen.toNat 0)))))):=rfl;have lS:=lS m.fact ag;have yH:=yH m.fact ag;have aW:=aW m.kind;rw [aj.bW] at lS yH;unfold aj.cells at lS yH;unfold lB nE at Cv;refine ea ?_;by_cases cA:m.kind≥1;rotate_left
  ·refine aJ.split 86 C (fun _=>?_) (fun h=>absurd h cE)
   rw [t8 cA,f5] at cH;rw [cH,d9 ba] at eQ;rw [eQ,ag0] at cj;rw [cj] at gR;refine hk ?_;exact Fin.bz (K:=[]) I C aM .nil ⟨_,by rw [gR];rfl⟩
  refine aJ.split 86 C (fun h=>absurd h cE) (fun _=>?_);rw [i6 cA,f0] at cH;refine ly ?_;by_cases db:m.kind≤4;rotate_left
  ·refine aJ.split 91 C (fun _=>?_) (fun h=>absurd h cE)
   rw [t8 db,f5] at cH;rw [cH,d9 ba] at eQ;rw [eQ,ag0] at cj;rw [cj] at gR;refine hk ?_;exact Fin.bz (K:=[]) I C aM .nil ⟨_,by rw [gR];rfl⟩
  refine aJ.split 91 C (fun h=>absurd h cE) (fun _=>?_);rw [i6 db,f0] at cH;refine ly ?_;by_cases fe:m.gen≥0;rotate_left
  ·refine aJ.split 96 C (fun _=>?_) (fun h=>absurd h cE)
   rw [t8 fe,f5] at cH;rw [cH,d9 ba] at eQ;rw [eQ,ag0] at cj;rw [cj] at gR;refine hk ?_;exact Fin.bz (K:=[]) I C aM .nil ⟨_,by rw [gR];rfl⟩
  refine aJ.split 96 C (fun h=>absurd h cE) (fun _=>?_);rw [i6 fe,f0] at cH;refine ly ?_;by_cases eH:m.gen<(p.dw.length:Int);rotate_left
  ·refine aJ.split 104 C (fun _=>?_) (fun h=>absurd h cE)
   rw [t8 eH,f5] at cH;rw [cH,d9 ba] at eQ;rw [eQ,ag0] at cj;rw [cj] at gR;refine hk ?_;exact Fin.bz (K:=[]) I C aM .nil ⟨_,by rw [gR];rfl⟩
  refine aJ.split 104 C (fun h=>absurd h cE) (fun _=>?_);rw [i6 eH,f0] at cH;cases jV:h' (b6 p) m.fact with
  | false=>
   rw [jV] at lS;rw [jV,f5] at cH;refine bZ ?_;rw [cH,d9 ba] at eQ;rw [eQ,ag0] at cj;rw [cj] at gR;skip;exact Fin.bz (K:=[]) I C aM .nil ⟨_,by rw [gR];rfl⟩
  | true=>
  rw [jV] at lS;rw [jV,f0] at cH;have yH:=yH (rW _ _ _ _ jV);obtain ⟨q,bq⟩:∃ q:Nat,m.gen=q:=⟨m.gen.toNat,by omega⟩;obtain ⟨y,ay,c'⟩:=bV (f:=bb) (l:=p.dw) (j:=q) ag;have wT:p.dw.getD m.gen.toNat 0=y:=by rw [bq,ac0,d6,ay];rfl
  have abL:=Wa y (d5 ay);rw [wT] at cH eQ;unfold bb at c';rw [bq] at Cv ⊢;refine c3 ?_;refine ad.cond C (fun js=>?_) (fun js=>?_)
  ·have js:¬ iW m.fact≤y:=by simp at js;omega
   rw [t8 js] at cH;rw [cH,d9 ba] at eQ;rw [eQ,ag0] at cj;rw [cj] at gR;refine jg ?_;exact Fin.bz (K:=[]) I C aM .nil ⟨_,by rw [gR];rfl⟩
  have js:iW m.fact≤y:=by simp at js;omega
  rw [i6 js] at cH;rw [cH,f9 C] at eQ;have q9:=MG p aE g4 (tz m.kind) b eg cap 12 (i0 _) m.node y ag ag out nD;unfold cJ cL bg cK at q9;cases av:visitM p (tz m.kind) 12 m.node y out with
  | none=>
   rw [av] at q9;rw [av,ag0] at eQ;rw [eQ,ag0] at cj;rw [cj] at gR;refine oX ?_;refine aJ.kM rfl rfl rfl rfl rfl rfl q9 I (aH.all _) ?_ (fun _ _ ⟨h,_⟩ _=>by cases h);rintro _ _ ⟨⟨⟩,cs,rfl⟩ I;rw [d7] at I ⊢;unfold cK at I ⊢;refine hk ?_;skip;exact Fin.bz (K:=[]) I C aM .nil ⟨_,by rw [gR];rfl⟩
  | some fi=>
   have pK:=q1 ag av;have Hm:=Mf ag Hl av;rw [av] at q9;rw [av,ah2] at eQ;refine oX ?_;refine aJ.kM rfl rfl rfl rfl rfl rfl q9 I (aH.all _) ?_ (fun _ _ ⟨h,_⟩ _=>by cases h);rintro _ _ ⟨⟨⟩,rfl⟩ I;rw [d7] at I ⊢;unfold cK at I ⊢;refine jN ?_;exact bn.mk (i+1,fi) I ⟨ar,eQ,by show fi.length=_;omega,Hm⟩ b' (by simp only [cK];exact aY) (by show p.methods.length-(i+1)<p.methods.length-i;omega)
 have kL:i=p.methods.length:=by simp at kL;omega
 rw [ef ag,nI] at eQ;rw [eQ,ah2] at cj;have q9:=MG p aE g4 false b eg cap 12 (i0 _) p.main 0 (ai0 _) ag out nD;unfold cJ cL bg cK at q9;refine bB ?_;cases av:visitM p false 12 p.main 0 out with
 | none=>
  rw [av] at q9;rw [av,ag0] at cj;rw [cj] at gR;refine aa.b9 rfl rfl rfl rfl rfl q9 I (aH.all _) ?_ (fun _ _ ⟨h,_⟩ _=>by cases h);rintro _ _ ⟨⟨⟩,cs,rfl⟩ I;rw [d7] at I ⊢;unfold cK at I ⊢;refine ew ?_;exact Fin.bz (K:=[]) I C aM .nil ⟨_,by rw [gR];rfl⟩
 | some fi=>
 have pK:=q1 (ai0 _) av;have Hm:=Mf (ai0 _) Hl av;rw [av] at q9;rw [av,ah2] at cj;refine aa.b9 rfl rfl rfl rfl rfl q9 I (aH.all _) ?_ (fun _ _ ⟨h,_⟩ _=>by cases h);rintro _ _ ⟨⟨⟩,rfl⟩ I;rw [d7] at I ⊢;unfold cK at I ⊢;refine bB ?_;refine ad.b0 [1,5] C I (σ:=Nat) (fun j=>[(10,.int .i64 (j:Int))]) (fun _=>cK b (fi.map bb++eg)) (fun j=>j≤p.nodes.length∧(fi.take j).contains (-1)=false) (fun j=>p.nodes.length-j) 0 ⟨g7 _,rfl⟩ (ck C) (by simp only [cK];exact aY) ?_;rintro u3 ⟨Hn,ib⟩ I
 try simp only at Hn ib I ⊢
 unfold cK at I ⊢;refine jM ?_;refine aa.qJ ai C C C C C C C ?_;refine fI ?_;refine ad.cond C (fun Ho=>?_) (fun MM=>?_)
 ·have Ho:u3<p.nodes.length:=by simpa using Ho
  obtain ⟨z,bO⟩:∃ z,fi[u3]? = some z:=⟨_,g6 ag⟩;have G4:=Hm z (d5 bO);have Hp:fi.getD u3 0=z:=by rw [d6,bO];rfl
  refine dC ?_;refine aa.fo ai u3 C C C C C C C C C C ag ?_;refine aa.j7 ai I C C C C C C a1 C (Hf ag) ?_;rw [Hp];refine fI ?_;refine ad.cond C (fun az=>?_) (fun az=>?_)
  ·have az:z = -1:=by simp at az;omega
   subst az;rw [show fi.contains (-1)=true from af7.2 (d5 bO),f9 C] at cj;rw [cj] at gR;refine jg ?_;exact Fin.bz (K:=[]) I C aM .nil ⟨_,by rw [gR];rfl⟩
  have az:z ≠ -1:=by simp at az;omega
  refine fR ?_;exact bn.mk (u3+1) I ⟨Ho,by rw [iH bO,al0,ib,ae9];simpa using fun e=>az e.symm⟩ b' (aH.all _) (by show p.nodes.length-(u3+1)<p.nodes.length-u3;omega)
 have MM:u3=p.nodes.length:=by simp at MM;omega
 rw [af0 ag] at ib;rw [ib,d9 ba] at cj;rw [cj] at gR;refine dB ?_;exact Fin.bz (K:=[]) I C aM .nil ⟨_,by rw [gR];rfl⟩
theorem MN (p:bP) (aE:fN p):aR d0 45 [cJ p] (.bool (fG p)):=by
 have U:=V' p aE;refine aR.bj ai Tryz.func45 C C fun s I=>?_
 unfold cJ cL at *;refine dL ?_;refine aa.b9 rfl rfl rfl rfl rfl U I .nil ?_ (fun _ _ ⟨_,h⟩ _=>by cases h);rintro _ aO ⟨v,⟨⟩⟩ I;refine ew ?_;exact bm I
end Go.Proofs.YtnafpeohfbglmaaGreat
namespace Go.dv
theorem MO {s x:Int} {l:List Int}:x∈m8 s l↔x=s∨x∈l:=by
 unfold m8;split
 ·rename_i h
  constructor
  ·exact .inr
  ·rintro (rfl|ae)
   ·simpa using h
   ·exact ae
 ·rw [List.mem_mergeSort,ac9,z2]
  exact Or.comm
theorem MP (k:dp) (x:cg):(k.ask x).bl=k.bl:=by
 unfold dp.ask
 repeat' split
 all_goals rfl
def q' (w:bx) (σ:ec):Prop:=∀ q,(2≤q.getD 1 0→(σ q).bl=[])∧∀ x∈(σ q).bl,0≤x∧x<(w.owner.length:Int)
theorem q'.hX {w:bx} {σ:ec} (h:q' w σ) {sp:List Int} {k:dp} (aD:(2≤sp.getD 1 0→k.bl=[])∧∀ x∈k.bl,0≤x∧x<(w.owner.length:Int)):q' w (σ.hX sp k):=by
 intro q;unfold ec.hX;by_cases e:q=sp
 ·rw [f9 e,e];exact aD
 ·rw [d9 e];exact h q
theorem MQ {w:bx} {neg:Bool} {arg:Int} {path:List Int} (aE:path.length≤2) (au:∀ s∈path,0≤s∧s<(w.owner.length:Int)):∀ (j:Nat),j≤path.length→∀ σ,q' w σ→q' w (gZ neg arg path j σ)
  | 0,_,σ,h=>by
    rw [gZ];exact h.hX (h _)
  | j+1,aK,σ,h=>by
    have U:=MQ (neg:=neg) (arg:=arg) aE au j ag σ h;rw [gZ];generalize gZ neg arg path j σ=Hq at U;have ar:j<path.length:=by omega
    have ae:q' w (Hq.hX (bw arg (path.take j)) ((Hq (bw arg (path.take j))).slot (path.getD j 0))):=by
      refine U.hX ⟨fun ae=>?_,fun x ab=>?_⟩
      · exfalso
        have:(bw arg (path.take j)).getD 1 0=((path.take j).length:Int):=rfl;rw [this,ac8] at ae;omega
      · have ab:x∈m8 (path.getD j 0) (Hq (bw arg (path.take j))).bl:=ab
        rcases MO.1 ab with rfl|ab
        · rw [d6,g6 ar]
          exact au _ (aj6 ar)
        · exact (U _).2 x ab
    exact ae.hX (ae _)
theorem DA {w:bx} {f:aj} (h:h3 w f=true) (aB:f.cU=true):f.path.length≤2∧∀ s∈f.path,0≤s∧s<(w.owner.length:Int):=by
 simp only [h3,aB,if_true,f7,g8,af3] at h;exact ⟨h.2.2.2.2.2.1,fun s au=>by have:=h.2.2.2.2.2.2.1 s au;omega⟩
theorem Wc {w:bx} {x:cg} (az:h3 w x.1=true) (aB:x.1.cU=true) {σ:ec} (h:q' w σ):q' w (addLit σ x):=by
 obtain ⟨U,ae⟩:=DA az aB;have an:=MQ (neg:=x.2) (arg:=x.1.arg) U ae x.1.path.length (i0 _) σ h;unfold addLit;simp only;refine an.hX ?_;rw [MP];exact an _
theorem Wd {w:bx} {l:List cg} (h:∀ x∈l,h3 w x.1=true∧x.1.cU=true):q' w (ev l):=by
 unfold ev;have key:∀ (l:List cg) (σ:ec),(∀ x∈l,h3 w x.1=true∧x.1.cU=true)→q' w σ→q' w (l.foldl addLit σ):=by
  intro l
  induction l with
  | nil=>exact fun σ _ h=>h
  | cons x r a6=>
   intro σ ab We;exact a6 _ (fun y ay=>ab y (i5 _ ay)) (Wc (ab x i7).1 (ab x i7).2 We)
 exact key l w1 h (fun q=>⟨fun _=>rfl,fun x ab=>by cases ab⟩)
def tK (w:bx) (L:List cg):Prop:=∀ x∈L,h3 w x.1=true∧x.1.cU=true
def ix (x:cg):aj:=if x.2 then x.1.not else x.1
def sh (arg:Int) (path:List Int) (x:cg):Bool:=decide (x.1.arg=arg)&&x.1.path==path
def fr (L:List cg) (arg:Int) (path:List Int):List cg:=L.filter (sh arg path)
def u4 (path Hr:List Int):Bool:=decide (path.length≥Hr.length)&&path.take Hr.length==Hr
def ld (arg:Int) (path:List Int) (x:cg):Bool:=decide (x.1.arg=arg)&&u4 x.1.path path
def na (L:List cg) (arg:Int) (path:List Int) (s:Int):Bool:=L.any (ld arg (path++[s]))
def jR (n:Nat) (L:List cg) (arg:Int) (path:List Int):List Int:=((ae7 n).filter fun s=>na L arg path (s:Nat)).map fun s:Nat=>(s:Int)
def lH (L:List cg) (arg:Int) (path:List Int):Bool := !L.any fun x => !x.2&&ld arg path x
def tL (n:Nat) (L:List cg) (arg:Int) (path:List Int):Bool:=(jR n L arg path).all fun s=>lH L arg (path++[s])
def pg:List cg→Int×Int×List Int→Option (Int×Int×List Int)
 | [],a=>some a
 | x::r,a=>
  if x.1.op=2 then (if decide (x.1.cls>1) != x.2 then none else pg r a)
  else if x.1.op=3 then (if x.2 then pg r (max a.1 x.1.n,a.2.1,a.2.2) else pg r (a.1,min a.2.1 (x.1.n-1),a.2.2))
  else if x.2 then pg r (a.1,a.2.1,a.2.2++[x.1.n])
  else pg r (max a.1 x.1.n,min a.2.1 x.1.n,a.2.2)
def A7:Nat→Int→List Int→Int
 | 0,n,_=>n
 | k+1,n,l=>if l.contains n then A7 k (n+1) l else n
def u5 (n:Nat) (L:List cg) (arg:Int) (path:List Int):Bool:=
 match pg (fr L arg path) (-1000000000,1000000000,[]) with
 | none=>false
 | some a=>decide (A7 (a.2.2.length+1) a.1 a.2.2≤a.2.1)&&tL n L arg path
def ra (x:cg):Bool:=(decide (x.1.op=2)&&(decide (x.1.cls=0)||decide (x.1.cls=2)))==x.2
def xa (n:Nat) (L:List cg) (arg:Int) (path:List Int):Bool:=((fr L arg path).all fun x => !ra x)&&tL n L arg path
def p9:List cg→(Nat→Bool)×(Nat→Bool)→Option ((Nat→Bool)×(Nat→Bool))
 | [],a=>some a
 | x::r,a=>
  if x.1.op≠2∨x.1.cls=1∨x.1.cls=2 then (if x.2 then p9 r a else none)
  else if x.2 then p9 r (a.1,fun k=>if k=x.1.cls.toNat then true else a.2 k)
  else p9 r (fun k=>if k=x.1.cls.toNat then true else a.1 k,a.2)
def si (w:bx) (L:List cg) (cn:List Int→Bool) (arg:Int) (path:List Int):List Int→(Nat→Bool)×(Nat→Bool)→Option ((Nat→Bool)×(Nat→Bool))
 | [],a=>some a
 | s::r,a=>
  if !lH L arg (path++[s]) && !cn (path++[s]) then none
  else si w L cn arg path r (if lH L arg (path++[s]) then a.1 else fun k=>if k=(w.owner.getD s.toNat 0).toNat then true else a.1 k,
   if cn (path++[s]) then a.2 else fun k=>if k=(w.owner.getD s.toNat 0).toNat then true else a.2 k)
def xb (w:bx) (L:List cg) (cn:List Int→Bool) (arg:Int) (path:List Int):Bool:=
  match p9 (fr L arg path) (fun _=>false,fun _=>false) with
  | none=>false
  | some a=>match si w L cn arg path (jR w.owner.length L arg path) a with
    | none=>false
    | some a => !a.2 0&&(ae7 (3+w.ps.length)).all fun k => !(hn w.ps w.ps.length (fun k=>if k=0 then false else a.1 k) k&&a.2 k)
def ph (w:bx) (L:List cg) (arg:Int):Nat→List Int→Bool
 | 0,_=>false
 | k+1,path=>u5 w.owner.length L arg path||(xa w.owner.length L arg path||xb w L (ph w L arg k) arg path)
def DB (w:bx) (L:List cg):Bool:=(ae7 3).all fun a=>ph w L ((a:Nat):Int) 3 []
end Go.dv
namespace Go.Proofs.YtnafpeohfbglmaaGreat
open Go.cW Go.dv
def oq (L:List cg):af := .aC 6 (L.map fun x=>(ix x).bJ) .bc
def kP (w:bx) (L:List cg) (arg:Int) (path:List Int):af := .agg [cV w.ps,bg w.owner,oq L,.int .i64 arg,bg path,.bool false]
theorem yI (x:cg) (ab:x.1.cU=true):aR d0 213 [(ix x).bJ] (.cu [x.1.bJ,.bool x.2]):=by
 have aq:=bC;refine aR.bj ai Tryz.func213 C C fun s I=>?_
 obtain ⟨⟨o,a,p,c,n,ks⟩,b⟩:=x;have ab:(aj.mk o a p c n ks).cU=true:=ab;have ay:([aj.mk o a p c n ks].map aj.bJ)[0]? = some (aj.mk o a p c n ks).bJ:=rfl;unfold aj.cU at ab;simp only [aj.op] at ab;have bD:o≠5:=fun e=>by subst e;simp at ab
 unfold ix;cases b with
 | true=>
  rw [f9 C];simp only [aj.bW,aj.cells,aj.not,aj.op,aj.arg,aj.path,aj.cls,aj.n,aj.kids] at ay ⊢
  repeat (first|(refine SG I ?_;clear I;intro I)|refine aa.d' ai I rfl rfl rfl rfl rfl rfl rfl (fun cy I=>?_))
  exact Fin.cp I (rT C C (bp.get a1 I) C C) aM
 | false=>
  rw [d9 ba];simp only [aj.bW,aj.cells,aj.not,aj.op,aj.arg,aj.path,aj.cls,aj.n,aj.kids]
  repeat (first|(refine CT ?_)|refine aa.d' ai I C C C C C C C (fun cy I=>?_))
  refine ad.cond C (fun h=>absurd fZ bD) (fun _=>?_);refine cG I ?_;intro I;exact Fin.cp I (rT C C (bp.get a1 I) C C) aM
theorem MR (a b:List Int) (a8:a.length<bu) (dO:b.length<bu):aR d0 250 [bg a,bg b] (.bool (u4 a b)):=by
 have aq:=bC;refine aR.bj ai Tryz.func250 C C fun s I=>?_
 unfold bg u4;by_cases h:b.length≤a.length
 ·have U:=tt (a.take b.length) b t' dO
  rw [i6 h,f0];unfold bg at U;rw [List.map_take] at U;have e:(b.map bb).length=b.length:=f6 _;rw [← e] at U;refine dL ?_;refine aa.ds 10 C fZ ?_;refine dS ?_;refine aa.slice ai 0 (b.map bb).length C C C C C C C C (.inr C) (.inl ⟨rfl,rfl⟩) (.inr ⟨_,_,rfl,rfl⟩) (.inl ⟨rfl,rfl⟩) (g7 _) fZ ?_;rw [aj'];refine c3 ?_;exact Fin.cp I C (aS.of_eq (by rw [e]))
 ·rw [t8 h,f5]
  refine dL ?_;refine aa.c2 10 C fZ ?_;refine ew ?_;exact bm I
theorem Hs (w:bx) (L:List cg) (arg:Int) (path:List Int) (bt:Int) (aE:path.length≤3):aR d0 216 [kP w L arg path,.int .i64 bt] (kP w L arg (path++[bt])):=by
 have aq:=bC;refine aR.bj ai Tryz.func216 C C fun s I=>?_
 unfold kP oq cV bg;refine jM ?_;refine aa.d' ai I C C C C C C C (fun ot I=>?_);refine ht ?_;refine ad.qD ai mixed C (bf.run C ?_);refine bo.zX 8 ai I C C C C C C C C C et C C C (.inr C) C (GA _) C (f6 _).symm (by show path.length*8≤_;omega) ag (fun _ _ => .inl trivial) (fun ek I=>?_);refine bf.run C ?_;refine bo.gf 11 ai I C C C C C C C C C et C C C C C C C C .here (f6 _).symm j2 ag (fun _ _ => .inl trivial) (fun dj I=>?_);refine bf.run C ?_;refine bf.cS 15 ai I C C C C C C C C C C C a1 b3 (fun I=>?_);refine bf.run C ?_;refine bf.done C ?_;refine eD ?_;exact Fin.cp I (n5 C C (bp.get a1 I) C) (aS.agg (.cons aM (.cons aM (.cons aM (.cons aM (.cons (aS.of_eq (by rw [ac2];rfl) |>.trans aS.bc) (.one aM)))))))
def u6 (g:Nat) (l:List Int) (eg:List af):a':=[(.own g,.box 3 (l.map bb++eg))]
theorem Wf (g cap:Nat) (l:List Int) (eg:List af) (n:Int) (aB:l.length<bu):bE d0 92 [eu g l.length cap,.int .i64 n] (u6 g l eg) (fun o K=>o = .ret (.int .i64 (match l.findIdx? (· == n) with
  | some i=>(i:Int)
  | none => -1))∧K=u6 g l eg):=by
 have aq:=bC;refine bE.bj ai Tryz.func92 C C fun s I=>?_
 unfold u6 at I ⊢;refine dL ?_;refine aa.qJ ai C C C C C C C ?_;refine dC ?_;refine ad.b0 [0,1,7] C I (σ:=Nat) (fun j=>[(8,.int .i64 (j:Int))]) (fun _=>u6 g l eg) (fun j=>j≤l.length∧∀ i,i<j→l[i]? ≠ some n) (fun j=>l.length-j) 0 ⟨g7 _,fun i aQ=>absurd aQ (al' _)⟩ (ck C) (aH.all _) ?_;rintro j ⟨aK,ak⟩ I;unfold u6 at I ⊢;refine b2 ?_;refine ad.cond C (fun ar=>?_) (fun aV=>?_);rotate_left
 ·have aV:j=l.length:=by simp at aV;omega
  have ab:l.findIdx? (· == n)=none:=by
   rw [af8];intro z bO;obtain ⟨i,aQ⟩:=ag3 bO;have U:=qM aQ;have ae:=ak i ag;simp only [beq_eq_false_iff_ne];intro e;subst e;exact ae aQ
  rw [ab];refine dB ?_;exact Fin.bz I C aM (aH.all _) ⟨rfl,rfl⟩
 have ar:j<l.length:=by simpa using ar
 obtain ⟨y,ay⟩:∃ y,l[j]? = some y:=⟨_,g6 ar⟩;have c':(l.map bb++eg)[j]? = some (.int .i64 y):=by
  rw [ad6 (by simpa using ar)];simp [ay,bb]
 refine bB ?_;refine aa.fo ai j C C C C C C C C C C ar ?_;refine aa.j7 ai I C C C C C C a1 C (by show (l.map bb++eg)[j*1]? = _;rw [ag7];exact c') ?_;refine fI ?_;refine ad.cond C (fun az=>?_) (fun az=>?_)
 ·have az:n=y:=by simpa using az
  subst az;have ab:l.findIdx? (· == n)=some j:=by
   rw [ae8];refine ⟨ar,by simpa using (ac3.1 ay).2,fun i aQ=>?_⟩;have:=ak i aQ;rw [g6 ag] at this;simpa using this
  rw [ab];refine jg ?_;exact Fin.bz I C aM (aH.all _) ⟨rfl,rfl⟩
 ·have az:n≠y:=by simpa using az
  refine fR ?_;refine bn.mk (j+1) I ⟨ar,fun i aQ=>?_⟩ b' (aH.all _) l3;rcases af1.1 aQ with aQ|rfl
  ·exact ak i aQ
  ·rw [ay];intro e;cases e;exact az C
theorem MS (g cap:Nat) (l:List Int) (eg:List af) (n:Int) (aB:l.length<bu):bE d0 43 [eu g l.length cap,.int .i64 n] (u6 g l eg) (fun o K=>o = .ret (.bool (l.contains n))∧K=u6 g l eg):=by
 rw [← KP];have h:=Wf g cap l eg n aB;refine bE.bj ai Tryz.func43 C C fun s I=>?_
 refine dL ?_;refine aa.b9 rfl rfl rfl rfl rfl h I (aH.all _) ?_ (fun _ _ ⟨h,_⟩ _=>by cases h);rintro _ _ ⟨⟨⟩,rfl⟩ I;rw [d7] at I ⊢;refine eD ?_;exact Fin.bz I C aM (aH.all _) ⟨rfl,rfl⟩
theorem Wg (bt:q7) (l:List Int) (n:Int) (au:se bt l) (aB:l.length<bu):bE d0 43 [la bt l,.int .i64 n] (jQ bt l) (fun o K=>o = .ret (.bool (l.contains n))∧K=jQ bt l):=by
 cases bt with
 | none=>
  have:l=[]:=au;subst this;have h:=yd [] n dW;unfold bg at h;have h:=aR.args (show cR [.aC 0 [] .nil,.int .i64 n] [.aC 1 ([].map bb) .bc,.int .i64 n] from .cons aS.empty (.one aM)) h;exact fun s _=>hi.mono (h s) (fun o al ⟨U,ae⟩=>⟨[],ae,trivial,U,rfl⟩)
 | some x=>
  obtain ⟨g,cap,eg⟩:=x;exact MS g cap l eg n aB
def yJ (σ:ec) (mb:Nat) (pre:List fV) (e:fV) (post:List fV):a':=q6 mb (m9 (pre++e::post))::(pre.flatMap (iJ σ)++post.flatMap (iJ σ))
theorem DC (σ:ec) (mb:Nat) (pre:List fV) (e:fV) (post:List fV):(l5 σ mb (pre++e::post)).Perm (iJ σ e++yJ σ mb pre e post):=by
 unfold l5 yJ;rw [as5,ah4];refine (aj7.cons _ ?_).trans ak9.symm;exact as8 _ _ _
theorem Wh {σ σ':ec} {mb:Nat} {pre:List fV} {e e':fV} {post:List fV} (dn:e'.sp=e.sp) (aq:e'.b=e.b) (au:∀ x∈pre++post,σ' x.sp=σ x.sp):(iJ σ' e'++yJ σ mb pre e post).Perm (l5 σ' mb (pre++e'::post)):=by
 have U:m9 (pre++e'::post)=m9 (pre++e::post):=by unfold m9;simp [dn,aq]
 have ae:∀ l:List fV,(∀ x∈l,σ' x.sp=σ x.sp)→l.flatMap (iJ σ')=l.flatMap (iJ σ):=fun l aB=>by
  induction l with
  | nil=>rfl
  | cons x r a6=>
   rw [ah4,ah4,a6 (fun y ay=>aB y (i5 _ ay))];unfold iJ;rw [aB x i7]
 refine aj7.trans ?_ (DC σ' mb pre e' post).symm;unfold yJ;rw [U,ae pre (fun x ab=>au x (ai5 _ ab)),ae post (fun x ab=>au x (an5 _ ab))]
theorem pf.apart {n:Nat} {σ:ec} {pre:List fV} {e:fV} {post:List fV} (h:pf n σ (pre++e::post)):∀ x∈pre++post,x.sp≠e.sp:=by
 have az:=h.nodup;rw [ac2,ac4,am4] at az;obtain ⟨U,ae,an⟩:=az;intro x ab b1;rcases ac9.1 ab with ab|ab
 ·exact an x.sp (ad7.2 ⟨x,ab,rfl⟩) e.sp i7 b1
 ·rw [List.nodup_cons] at ae
  exact ae.1 (ad7.2 ⟨x,ab,b1⟩)
theorem pf.hX {n m:Nat} {σ:ec} {pre:List fV} {e e':fV} {post:List fV} (h:pf n σ (pre++e::post)) (dn:e'.sp=e.sp) (abM:n≤m) {k:dp} (aD:mD m k) (dd:se e'.bt k.bl):pf m (σ.hX e.sp k) (pre++e'::post):=by
 have a8:=h.apart;have hm:(pre++e'::post).map fV.sp=(pre++e::post).map fV.sp:=by simp [dn]
 refine ⟨fun x ab=>?_,by rw [hm];exact h.nodup,fun q bq=>?_,fun x ab=>?_,fun q=>?_⟩
 ·rcases ac9.1 ab with ab|ab
  ·exact h.four x (ai5 _ ab)
  ·rcases ad1.1 ab with rfl|ab
   ·rw [dn];exact h.four e ba
   ·exact h.four x (by simp [ab])
 ·rw [hm] at bq
  unfold ec.hX;rw [d9 (fun b1=>bq (by rw [b1];simp))];exact h.rest q bq
 ·by_cases MT:x=e'
  ·subst MT
   unfold ec.hX;rw [f9 dn];exact dd
  ·have ab:x∈pre++post:=by
    rcases ac9.1 ab with ab|ab
    ·exact ai5 _ ab
    ·rcases ad1.1 ab with rfl|ab
     ·exact absurd C MT
     ·exact an5 _ ab
   unfold ec.hX;rw [d9 (a8 x ab)];exact h.bt x (by rcases ac9.1 ab with ab|ab<;>simp [ab])
 ·unfold ec.hX
  split
  ·exact aD
  ·obtain ⟨di,a2,a3,a4,a5⟩:=h.mE q
   exact ⟨di,a2,by omega,by omega,a5⟩
end Go.Proofs.YtnafpeohfbglmaaGreat
namespace Go.cW
theorem bp.Ht {L R:a'} {k:bM} {o:dG} (h:bp L k o R):L.Perm ((k,o)::R):=by
 induction h with
 | here=>exact .refl _
 | there _ a6=>exact (aj7.cons _ a6).trans (aj7.swap _ _ _)
theorem aH.Ht {L K R:a'} (h:aH L K R):L.Perm (K++R):=by
 induction h with
 | nil=>exact .refl _
 | cons h t a6=>exact h.Ht.trans (aj7.cons _ a6)
theorem aH.Wi {L A B:a'} (h:aH L A []) (p:A.Perm B):aH L B []:=aH.iw ((by have:=h.Ht;rw [d7] at this;exact this:L.Perm A).trans p)
end Go.cW
namespace Go.Proofs.YtnafpeohfbglmaaGreat
open Go.cW Go.dv
theorem Wj (arg:Int) (path:List Int) (j:Nat) (bt:Int) (aK:path[j]? = some bt) (ae:j<2) :
  aR d0 281 [iI (bw arg (path.take j)),.int .i64 bt] (iI (bw arg (path.take (j+1)))):=by
 match path,j,aK,ae with
 | a::r,0,aK,_=>
  have:a=bt:=by simpa using aK
  subst this;exact Mu arg 0 0 a
 | a::b::r,1,aK,_=>
  have:b=bt:=by simpa using aK
  subst this;exact Mv arg a 0 b
theorem Wk {σ:ec} {e e':fV} {k:dp} (h:e'.sp=e.sp):iJ (σ.hX e.sp k) e'=pe e'.b k e'.on (la e'.bt k.bl)++jQ e'.bt k.bl:=by
 unfold iJ ec.hX;rw [f9 h]
theorem Wl (bt:q7) (l:List Int):fa (la bt l)=true:=by
 cases bt with
 | none=>rfl
 | some x=>rfl
theorem Wm (arg:Int):bw arg []=[arg,0,0,0]:=rfl
def kQ (bS:Nat) (sp:List Int) (σ:ec) (mb:Nat) (pre:List fV) (e:fV) (post:List fV) (kb:Nat) (k:dp) (on:bM) (bt:q7):a':=
 (.own bS,.box 319 (sp.map (af.int .i64)))::(.own kb,.box 340 (kO k (.aC 1 (k.e2.map bb) on) (la bt k.bl)))::(on,.row 3 1 k.e2.length)::(jQ bt k.bl++yJ σ mb pre e post)
theorem MU (bS:Nat) (sp:List Int) (σ:ec) (mb:Nat) (pre:List fV) (e:fV) (post:List fV):(l5 σ mb (pre++e::post)++[((bM.own bS,dG.box 319 (sp.map (af.int .i64))):bM×dG)]).Perm (kQ bS sp σ mb pre e post e.b (σ e.sp) e.on e.bt):=
 (ap7.trans (aj7.cons _ (DC σ mb pre e post)))
theorem DD {bS:Nat} {sp:List Int} {σ:ec} {mb n:Nat} {pre:List fV} {e:fV} {post:List fV} (cH:pf n σ (pre++e::post)) (k:dp) (on:bM) (bt:q7):(kQ bS sp σ mb pre e post e.b k on bt).Perm ((.own bS,.box 319 (sp.map (af.int .i64)))::l5 (σ.hX e.sp k) mb (pre++⟨e.sp,e.b,on,bt⟩::post)):=by
 refine aj7.cons _ ?_;have h:=Wh (σ:=σ) (σ':=σ.hX e.sp k) (mb:=mb) (pre:=pre) (e:=e) (e':=⟨e.sp,e.b,on,bt⟩) (post:=post) C C (fun x ab=>by unfold ec.hX;rw [d9 (cH.apart x ab)]);rw [Wk (e:=e) (e':=⟨e.sp,e.b,on,bt⟩) C] at h;exact h
theorem mD.mono {n m:Nat} (h:n≤m) {k:dp} (aD:mD n k):mD m k:=⟨aD.fU,aD.no,by have:=aD.e2;omega,by have:=aD.bl;omega,aD.num⟩
theorem Wn (s:Int) (l:List Int):(m8 s l).length≤l.length+1:=by
 unfold m8;split
 ·omega
 ·rw [ap8];simp
theorem aH.Wo {L A B:a'} (h:L.Perm (A++B)):∃ R,aH L A R:=by
 induction A generalizing L with
 | nil=>exact ⟨L,.nil⟩
 | cons x A a6=>
  obtain ⟨k,o⟩:=x;obtain ⟨a,b,hz⟩:=ar3 (h.symm.subset (ai5 _ i7));rw [hz] at h;have ae:(a++b).Perm (A++B):=(ay8 _).1 (ak9.symm.trans h);obtain ⟨R,ed⟩:=a6 ae;exact ⟨R,.cons (bp.A1 hz) ed⟩
theorem mD.need {n:Nat} {k:dp} (h:mD n k) (neg:Bool):mD n (k.need neg):=⟨h.fU,h.no,h.e2,h.bl,h.num⟩
theorem mD.slot {n:Nat} {k:dp} (h:mD n k) (s:Int):mD (n+1) (k.slot s):=⟨h.fU,h.no,by have:=h.e2;show k.e2.length≤_;omega,by have:=h.bl;have:=Wn s k.bl;show (m8 s k.bl).length≤_;omega,h.num⟩
theorem mD.ask {n:Nat} {k:dp} (h:mD n k) {w:bx} (hw:w.ps.length≤60) {x:cg} (ab:tG w x):mD (n+1) (k.ask x):=by
 have hF:=wV.of ab.node ab.leaf;have om:=ab.num;obtain ⟨U,ae,an,bd,bD⟩:=h;unfold dp.ask;split
 ·rename_i b5
  have aA:=hF.cls b5;have aE:2^x.1.cls.toNat<2^64:=ag1 ag ag;split
  ·exact ⟨U,ag9 ae aE,by simp only;omega,by simp only;omega,bD⟩
  ·exact ⟨ag9 U aE,ae,by simp only;omega,by simp only;omega,bD⟩
 ·split
  ·split
   ·exact ⟨U,ae,by simp only;omega,by simp only;omega,by simp only;omega⟩
   ·exact ⟨U,ae,by simp only;omega,by simp only;omega,by simp only;omega⟩
  ·split
   ·exact ⟨U,ae,by simp only [f8,ae6];omega,by simp only;omega,bD⟩
   ·exact ⟨U,ae,by simp only;omega,by simp only;omega,by simp only;omega⟩
theorem MV (k:dp) (x:cg):(k.ask x).bl=k.bl:=by
 unfold dp.ask;split
 ·split<;>rfl
 ·split
  ·split<;>rfl
  ·split<;>rfl
theorem Wp (w:bx) (hw:w.ps.length≤60) (mb n:Nat) (σ:ec) (es:List fV) (cH:pf n σ es) (az:n+3<bu) (x:cg) (ab:tG w x) :
  bE d0 269 [h6 w mb,h4 x] (l5 σ mb es) (fun o K=>o = .ret (.cu [])∧∃ dy,K=l5 (addLit σ x) mb dy∧pf (n+3) (addLit σ x) dy):=by
 have aq:=bC;have hF:=wV.of ab.node ab.leaf;have Hu:=Mz w mb n σ es cH x.1.arg 0 0 0;obtain ⟨f,neg⟩:=x;simp only at hF Hu;have hQ:=hF.path;refine bE.bj ai Tryz.func269 C C fun s I=>?_
 unfold h6 at Hu;unfold h4 pX aj.cells;unfold h6
 repeat (first|(refine Kj I ?_;clear I;intro I)|refine aa.d' ai I rfl rfl rfl rfl rfl rfl rfl (fun cy I=>?_))
 refine aa.b9 rfl rfl rfl rfl rfl Hu I (aH.all _).there ?_ (fun _ _ ⟨_,_,_,_,h,_⟩ _=>by cases h);rintro _ _ ⟨pre,e,post,dn,⟨⟩,rfl,cH⟩ I;refine aa.run ai C (aa.nil ?_);refine bY ?_;refine ad.mq I (kQ cy (bw f.arg []) σ mb pre e post e.b (σ e.sp) e.on e.bt) (aH.iw (MU cy (bw f.arg []) σ mb pre e post)) (fun aD=>?_);revert aD
 repeat clear I
 intro I;refine ad.Su (σ:=Unit) (fun _=>[(0,h6 w mb),(3,.bA (pX (f,neg)) 0),(4,.ptr cy 0),(5,.ptr e.b 0) ]) (fun _=>kQ cy (bw f.arg []) σ mb pre e post e.b ((σ e.sp).need neg) e.on e.bt) (fun _=>True) ?_ ?_
 ·unfold kQ kO dp.need
  unfold kQ kO at I;cases eY:(σ e.sp).gB<;>rw [eY] at I<;>cases neg
  all_goals
   refine cG I ?_;intro I;exact lW.mk () I trivial (ck C) Dw
 rintro _-I;refine gg ?_;refine ad.b0 [0,3,4,29,30] C I (σ:=Nat×List fV×fV×List fV) (fun q=>[(31,.int .i64 (q.1:Int)),(5,.ptr q.2.2.1.b 0)]) (fun q=>(.own cy,.box 319 ((bw f.arg (f.path.take q.1)).map (af.int .i64)))::l5 (gZ neg f.arg f.path q.1 σ) mb (q.2.1++q.2.2.1::q.2.2.2))
  (fun q=>q.1≤f.path.length∧q.2.2.1.sp=bw f.arg (f.path.take q.1)∧pf (n+q.1) (gZ neg f.arg f.path q.1 σ) (q.2.1++q.2.2.1::q.2.2.2)) (fun q=>f.path.length-q.1) (0,pre,e,post) ⟨g7 _,dn,?_⟩ (ck C) (aH.iw ?_) ?_
 ·have:=cH.hX (e':=e) C (i0 _) ((cH.mE e.sp).need neg) (cH.bt e ba)
  rw [dn] at this;exact this
 ·have br:gZ neg f.arg f.path 0 σ=σ.hX e.sp ((σ e.sp).need neg):=by rw [gZ,Wm,dn]
  show aj7 _ (((bM.own cy,dG.box 319 ((bw f.arg []).map (af.int .i64))):bM×dG)::l5 (gZ neg f.arg f.path 0 σ) mb (pre++e::post));rw [br];exact DD (mb:=mb) (bS:=cy) (sp:=bw f.arg []) cH ((σ e.sp).need neg) e.on e.bt
 rintro ⟨j,pre,e,post⟩ ⟨aK,dn,cH⟩ I;simp only at aK dn cH I ⊢;generalize cj:gZ neg f.arg f.path j σ=S at cH I ⊢;have aD:=cH.mE e.sp;refine b2 ?_;refine ad.cond C (fun ar=>?_) (fun aV=>?_);rotate_left
 ·have aV:j=f.path.length:=by simp at aV;omega
  subst aV;rw [ac6] at dn I ⊢;have aF:addLit σ (f,neg)=S.hX e.sp ((S e.sp).ask (f,neg)):=by
   unfold addLit;simp only;rw [cj,dn]
  have MW:=VN w hw e.b (S e.sp) ⟨aD.fU,aD.no,by have:=aD.e2;omega⟩ aD.num e.on (la e.bt (S e.sp).bl) (Wl _ _) (f,neg) ab;refine ad.mq I (kQ cy (bw f.arg f.path) S mb pre e post e.b (S e.sp) e.on e.bt) (aH.iw (aj7.cons _ (DC S mb pre e post))) (fun aD=>?_);revert aD
  repeat clear I
  intro I;unfold h4 pX aj.cells at MW;unfold kQ at I ⊢;refine bB ?_;refine aa.b9 rfl rfl rfl rfl rfl MW I (.cons (.there .here) (.cons (.there .here) .nil)) ?_ (fun _ _ ⟨h,_⟩ _=>by cases h);rintro _ _ ⟨⟨⟩,w2,rfl⟩ I;refine fI ?_;have qj:=DD (mb:=mb) (bS:=cy) (sp:=bw f.arg f.path) cH ((S e.sp).ask (f,neg)) w2 e.bt;rw [← aF] at qj;unfold kQ at qj;rw [MV] at qj;have A8:(pe e.b ((S e.sp).ask (f,neg)) w2 (la e.bt (S e.sp).bl)++((.own cy,.box 319 ((bw f.arg f.path).map (af.int .i64)))::(jQ e.bt (S e.sp).bl++yJ S mb pre e post))).Perm (l5 (addLit σ (f,neg)) mb (pre++⟨e.sp,e.b,w2,e.bt⟩::post)++[(.own cy,.box 319 ((bw f.arg f.path).map (af.int .i64)))]):=by
   refine aj7.trans ?_ ((qj.trans ?_))
   ·exact ak9 (l₁:=pe e.b ((S e.sp).ask (f,neg)) w2 (la e.bt (S e.sp).bl))
   ·exact ap7 (l₁:=[((bM.own cy,dG.box 319 ((bw f.arg f.path).map (af.int .i64))):bM×dG)])
  obtain ⟨dx,Wq⟩:=aH.Wo A8;refine Fin.bz I C aM Wq ⟨rfl,_,rfl,?_⟩;rw [aF];refine cH.hX (e':=⟨e.sp,e.b,w2,e.bt⟩) C ag ((aD.ask hw ab).mono ag) ?_;rw [MV];exact cH.bt e ba
 have ar:j<f.path.length:=by simpa using ar
 obtain ⟨bt,ay,c'⟩:=bV (f:=fun i=>af.int .i64 i) ar;have kj:f.path.getD j 0=bt:=by rw [d6,ay];rfl
 have xc:=cH.bt e ba;have kK:=Wj f.arg f.path j bt ay ag;have nX:=aD.bl;refine ad.mq I (kQ cy (bw f.arg (f.path.take j)) S mb pre e post e.b (S e.sp) e.on e.bt) (aH.iw (aj7.cons _ (DC S mb pre e post))) (fun aD=>?_);revert aD
 repeat clear I
 intro I;unfold kQ kO at I ⊢;refine cG I ?_;intro I;refine aa.b9 rfl rfl rfl rfl rfl (Wg e.bt (S e.sp).bl bt xc ag) I (aH.jx (aH.all _)).there.there.there ?_ (fun _ _ ⟨h,_⟩ _=>by cases h);rintro _ _ ⟨⟨⟩,rfl⟩ I;refine aa.mq I (kQ cy (bw f.arg (f.path.take j)) S mb pre e post e.b (S e.sp) e.on e.bt) (aH.iw ((ak9 (l₁:=jQ e.bt (S e.sp).bl)).trans (.cons _ ((ak9 (l₁:=jQ e.bt (S e.sp).bl)).trans (.cons _ ((ak9 (l₁:=jQ e.bt (S e.sp).bl)).trans (.refl _))))))) (fun aD=>?_);revert aD
 repeat clear I
 intro I;refine aa.run ai C (aa.nil ?_);refine bY ?_;refine ad.x7 (σ:=q7) (fun _=>[(0,h6 w mb),(3,.bA (pX (f,neg)) 0),(4,.ptr cy 0),(5,.ptr e.b 0),(7,.int .i64 bt),(29,.aC 1 (f.path.map fun i => .int .i64 i) .bc),(30,.int .i64 ((f.path.map fun i=>af.int .i64 i).length:Int)),(31,.int .i64 (j:Int))]) (fun rb=>kQ cy (bw f.arg (f.path.take j)) S mb pre e post e.b ((S e.sp).slot bt) e.on rb) (fun rb=>se rb (m8 bt (S e.sp).bl)) ?_ ?_
 ·cases aA:(S e.sp).bl.contains bt with
  | true=>
   have aQ:m8 bt (S e.sp).bl=(S e.sp).bl:=by unfold m8;rw [f9 aA]
   unfold kQ dp.slot at *;rw [aQ];refine jN ?_;exact lW.mk e.bt I xc (ck C) (by simp only [aQ];exact aH.all _)
  | false=>
   have aQ:m8 bt (S e.sp).bl=((S e.sp).bl++[bt]).mergeSort (fun a b=>decide (a≤b)):=by unfold m8;rw [d9 (by rw [aA];simp)]
   have tH:(m8 bt (S e.sp).bl).length=(S e.sp).bl.length+1:=by rw [aQ,ap8];simp
   rcases dd:e.bt with _|⟨g,cap,eg⟩
   ·have br:(S e.sp).bl=[]:=by rw [dd] at xc;exact xc
    rw [br] at aQ tH;unfold kQ kO dp.slot at *;rw [dd] at I;rw [br] at I ⊢;refine cG I ?_;intro I;refine aa.CW ai I C C C C C C C et C C C C C C C (by show 1*8≤_;omega) (fun aX cf cs' U ae an I=>?_)
    obtain ⟨eg,rfl⟩:∃ eg,cs'=[bt].map bb++eg:=⟨cs'.drop 1,by
     have:=ag5 1 cs'
     rw [an] at this
     exact this.symm⟩
    refine cG I ?_;intro I;refine aa.b9 rfl rfl rfl rfl rfl (G' aX cf [bt] eg ba) I (.cons a1 .nil) ?_ (fun _ _ ⟨h,_⟩ _=>by cases h);rintro _ _ ⟨⟨⟩,rfl⟩ I;refine fI ?_;exact lW.mk (some (aX,cf,eg)) I (by show (m8 bt []).length+eg.length=cf;rw [tH];simp at U ⊢;omega) (ck C) (by simp only [la,jQ,tH];rw [aQ];exact Dw)
   ·rw [dd] at xc
    have xc:(S e.sp).bl.length+eg.length=cap:=xc;unfold kQ kO dp.slot at *;rw [dd] at I;simp only [jQ,ab',d8] at I ⊢;refine cG I ?_;intro I;refine aa.CX ai I C C C C C C C et C C C C a1 cE ag G8 C C C (by show _*8≤_;omega) ag (fun aX cf cs' U ae an I=>?_)
    obtain ⟨m',rfl⟩:∃ m',cs'=((S e.sp).bl++[bt]).map bb++m':=⟨cs'.drop ((S e.sp).bl.length+1),by
     have:=ag5 ((S e.sp).bl.length+1) cs'
     rw [an6 ba] at an
     rw [an] at this
     rw [ac2]
     exact this.symm⟩
    refine cG I ?_;intro I;have MX:=G' aX cf ((S e.sp).bl++[bt]) m' cE;rw [f8,ae6] at MX;refine aa.b9 rfl rfl rfl rfl rfl MX I (.cons a1 .nil) ?_ (fun _ _ ⟨h,_⟩ _=>by cases h);rintro _ _ ⟨⟨⟩,rfl⟩ I;refine fI ?_;exact lW.mk (some (aX,cf,m')) I (by show (m8 bt _).length+m'.length=cf;rw [tH];simp at U ⊢;omega) (ck C) (by simp only [la,jQ,tH];rw [aQ];exact Dw)
 rintro rb w5 I;have jl:=cH.hX (e':=⟨e.sp,e.b,e.on,rb⟩) C (ax5 (n+j)) (aD.slot bt) w5;have Hv:=Mz w mb _ _ _ jl f.arg ((f.path.take (j+1)).length:Int) ((f.path.take (j+1)).getD 0 0) ((f.path.take (j+1)).getD 1 0);generalize MY:S.hX e.sp ((S e.sp).slot bt)=sj at Hv jl;unfold h6 at Hv;unfold kQ kO at I ⊢;unfold h6;unfold iI at kK;refine cG I ?_;intro I;refine aa.mq I (((bM.own cy,dG.box 319 ((bw f.arg (f.path.take (j+1))).map (af.int .i64))):bM×dG)::l5 sj mb (pre++⟨e.sp,e.b,e.on,rb⟩::post)) (aH.iw (by rw [← MY];exact DD (mb:=mb) (bS:=cy) (sp:=bw f.arg (f.path.take (j+1))) cH ((S e.sp).slot bt) e.on rb)) (fun aD=>?_);revert aD
 repeat clear I
 intro I;refine aa.b9 rfl rfl rfl rfl rfl Hv I (aH.all _).there ?_ (fun _ _ ⟨_,_,_,_,h,_⟩ _=>by cases h);rintro _ _ ⟨yK,b1,yL,MZ,⟨⟩,rfl,u7⟩ I;refine aa.run ai C (aa.nil ?_);refine bY ?_;refine ad.mq I (kQ cy (bw f.arg (f.path.take (j+1))) sj mb yK b1 yL b1.b (sj b1.sp) b1.on b1.bt) (aH.iw (MU cy (bw f.arg (f.path.take (j+1))) sj mb yK b1 yL)) (fun aD=>?_);revert aD
 repeat clear I
 intro I;have wm:gZ neg f.arg f.path (j+1) σ=sj.hX b1.sp ((sj b1.sp).need neg):=by
  rw [gZ]
  try simp only
  rw [cj,kj,← dn,MY];have:bw f.arg (f.path.take (j+1))=b1.sp:=MZ.symm;rw [this]
 have A8:(kQ cy (bw f.arg (f.path.take (j+1))) sj mb yK b1 yL b1.b ((sj b1.sp).need neg) b1.on b1.bt).Perm (((bM.own cy,dG.box 319 ((bw f.arg (f.path.take (j+1))).map (af.int .i64))):bM×dG)::l5 (gZ neg f.arg f.path (j+1) σ) mb (yK++b1::yL)):=by
  rw [wm];exact DD (mb:=mb) (bS:=cy) (sp:=bw f.arg (f.path.take (j+1))) u7 ((sj b1.sp).need neg) b1.on b1.bt
 have Wr:pf (n+(j+1)) (gZ neg f.arg f.path (j+1) σ) (yK++b1::yL):=by
  have:=u7.hX (e':=b1) C (i0 _) ((u7.mE b1.sp).need neg) (u7.bt b1 ba);rw [← wm] at this;exact this
 unfold kQ kO dp.need at A8;unfold kQ kO at I ⊢;cases eY:(sj b1.sp).gB<;>rw [eY] at I A8<;>cases neg
 all_goals
  refine hl I ?_;intro I;exact bn.mk (j+1,yK,b1,yL) I ⟨ar,MZ,Wr⟩ b' (aH.Wi Dw A8) (by show f.path.length-(j+1)<f.path.length-j;omega)
end Go.Proofs.YtnafpeohfbglmaaGreat
namespace Go.cW
section
variable {P:Program} {Γ:cz} {N:Nat} {env:Env} {s:ao} {ops:Array Oper} {rest:List Oper} {Q:b8→Env→ao→Prop} {L R:a'}
theorem dz.Hw {B:fP} {ro:Option Nat} {a:Act} {w:World} {p:bT} (h:dz N B ro env s a w p) {kb b n cap i:Nat} {T xd:TypeId} {cells cs:List af} (cO:kb≠b) (j9:s kb=some (.box T cells)) (aA:cells[i]? = some (eu b n cap)) (au:s b=some (.box xd cs)) (ct:cs.length=cap) (az:n≤cap) (hm:n≤9223372036854775807)
  (iC:(cs.take n).all fa=true):∃ bk,dz N B ro env ((s.del b).set kb (.box T (cells.set i (.aC 1 (cs.take n) .bc)))) a w bk∧de w p w bk∧Kept s ((s.del b).set kb (.box T (cells.set i (.aC 1 (cs.take n) .bc)))) w p w bk:=by
 obtain ⟨vs,U,ae,an⟩:=h.wf.obj _ _ au;have ar:b<w.heap.size:=(i9.1 U).1;have hle:de w p w (p.ej b True):=⟨rfl,rfl,rfl,i0 _,fun _ _ h => .inl h,fun _ _ _=>rfl,fun _ _ h=>h⟩;have dd:∀ v,Rel w p v (eu b n cap)→Rel w (p.ej b True) v (.aC 1 (cs.take n) .bc):=by
  intro v aF;cases aF;have hH:=ae.take n;have wB:=qs hH iC;have kx:=ti wB;refine .aC b 0 n cap 1 (vs.toList.take n) (cs.take n) .bc ba xI ?_ (hH.mono hle) (fun v av=>by rw [z8 (wB v av)];rfl) hm az (fun h=>by cases h) (fun b h=>by cases h);rw [kx];intro i v aQ;refine ⟨.inr ⟨rfl,trivial⟩,?_⟩;rw [ae4,jJ U];rw [af'] at aQ;split at aQ
  ·simpa using aQ
  ·cases aQ
 have aD:Kept s ((s.del b).set kb (.box T (cells.set i (.aC 1 (cs.take n) .bc)))) w p w (p.ej b True):=⟨fun _ _ _=>rfl,fun aX aq gd=>by
  have bd:aX≠kb:=fun e=>by subst e;rw [j9] at gd;cases gd
  rw [ao.fA _ _ bd]
  by_cases e:aX=b
  ·subst e;exact ao.nr _ _
  ·rw [ao.mN _ e];exact gd,fun aX o aq gd aE=>by
   rcases aE with aE|⟨rfl,_⟩
   ·exact aE
   ·rw [au] at gd;cases gd⟩
 have cd:dq w (p.ej b True) ((s.del b).set kb (.box T (cells.set i (.aC 1 (cs.take n) .bc)))):=by
  refine ⟨fun aX o aq=>?_,fun aX o aE=>by rcases aE with aE|⟨rfl,_⟩;exact h.wf.lt _ _ aE;exact ar⟩;have e9:aX≠b→∀ o,p.ej b True aX o↔p aX o:=fun e o=>⟨fun aE=>by rcases aE with aE|⟨e',_⟩;exact aE;exact absurd e' e,.inl⟩
  by_cases jI:aX=kb
  ·subst jI
   rw [ao.gu] at aq;cases aq;obtain ⟨us,g1,g2,g3⟩:=h.wf.obj _ _ j9;obtain ⟨v,uo,mP⟩:=g2.get aA;have bD:=(g2.mono hle).set i (dd v mP);have fk:us.toList.set i v=us.toList:=by
    apply an8;intro k;rw [ar8];split
    ·rename_i e;subst e
     split
     ·rw [uo]
     ·rename_i ar;rw [aj9 ag]
    ·rfl
   rw [fk] at bD;exact ⟨us,g1,bD,fun o aE=>g3 o ((e9 cO o).1 aE)⟩
  rw [ao.fA _ _ jI] at aq;by_cases e:aX=b
  ·subst e;rw [ao.nr] at aq;cases aq
  ·rw [ao.mN _ e] at aq
   have ah:=h.wf.obj aX o aq;have e9:=e9 e;cases o with
   | box t c=>obtain ⟨us,g1,g2,g3⟩:=ah;exact ⟨us,g1,g2.mono hle,fun o aE=>g3 o ((e9 o).1 aE)⟩
   | row t sz n=>obtain ⟨cur,g1,g2,g3,g4⟩:=ah;exact ⟨cur,g1,g2,g3,fun o=>(e9 o).trans (g4 o)⟩
   | map es=>obtain ⟨cM,c,g1,g2,g3⟩:=ah;exact ⟨cM,c,g1,⟨g2.1.mono hle,g2.2.mono hle⟩,g3⟩
   | ll es it l c=>exact ah.qm hle C C
   | tick m=>exact ah
   | loop r env=>exact ⟨ah.1,fun t v h=>(ah.2 t v h).mono hle⟩
 exact ⟨_,h.step hle aD cd,hle,aD⟩
theorem M0 {kb b:Nat} {o o' o'':dG} {dx:a'} (I:Ok s L) (U:bp L (.own kb) o R) (ae:bp R (.own b) o' dx):kb≠b∧aT s L kb=some o∧aT s L b=some o'∧((aT s L).del b).set kb o''=aT s ((.own kb,o'')::dx)∧Ok s ((.own kb,o'')::dx):=by
 obtain ⟨cb,cA⟩:=U.perm I;have M1:gone (aT s R) (.own kb)∧Ok s R:=cA;obtain ⟨b1,db⟩:=ae.perm M1.2;have M3:gone (aT s dx) (.own b)∧Ok s dx:=db;have eV:aT s L=((aT s dx).set b o').set kb o:=by rw [cb];show lV (aT s R) (.own kb) o=_;rw [b1];rfl
 have j9:aT s R kb=none:=M1.1;rw [b1] at j9;have DE:((aT s dx).set b o') kb=none:=j9;have cO:kb≠b:=fun e=>by subst e;rw [ao.gu] at DE;cases DE
 rw [ao.fA _ _ cO] at DE;have aq:aT s dx b=none:=M3.1;refine ⟨cO,U.get I,?_,?_,DE,M3.2⟩
 ·rw [eV,ao.fA _ _ (fun e=>cO e.symm),ao.gu]
 ·funext x
  show ((aT s L).del b).set kb o'' x=((aT s dx).set kb o'') x;by_cases ab:x=kb
  ·subst ab;rw [ao.gu,ao.gu]
  ·rw [ao.fA _ _ ab,ao.fA _ _ ab]
   by_cases Hx:x=b
   ·subst Hx;rw [ao.nr,aq]
   ·rw [ao.mN _ Hx,eV,ao.fA _ _ ab,ao.fA _ _ Hx]
theorem ad.Hw {c:Code} (I:Ok s L) {kb b n cap:Nat} (i:Nat) {T xd:TypeId} {cells cs:List af} {dx:a'} (U:bp L (.own kb) (.box T cells) R) (ae:bp R (.own b) (.box xd cs) dx) (aA:cells[i]? = some (eu b n cap)) (ct:cs.length=cap) (az:n≤cap) (hm:n≤9223372036854775807) (iC:(cs.take n).all fa=true)
  (h:Ok s ((.own kb,.box T (cells.set i (.aC 1 (cs.take n) .bc)))::dx)→ad P N c Q env (aT s ((.own kb,.box T (cells.set i (.aC 1 (cs.take n) .bc)))::dx))):ad P N c Q env (aT s L):=by
 obtain ⟨g1,g2,g3,g4,g5⟩:=M0 (o'' := .box T (cells.set i (.aC 1 (cs.take n) .bc))) I U ae;intro tl B a w p eZ aI;obtain ⟨bk,an,bd,bD⟩:=aI.Hw g1 g2 aA g3 ct az hm iC;rw [g4] at an bD;exact mc (h g5 tl B a w bk eZ an) fun _ _ _ q=>q.after bd bD
end
end Go.cW
namespace Go.Proofs.YtnafpeohfbglmaaGreat
open Go.cW Go.dv
abbrev lf:=List Int×Nat
def ig (σ:ec) (e:lf):bM×dG:=(.own e.2,.box 340 (kO (σ e.1) (.aC 1 ((σ e.1).e2.map bb) .bc) (.aC 1 ((σ e.1).bl.map bb) .bc)))
def ou (es:List lf):SMap:=es.map fun e=>(e.1,.ptr e.2 0)
def mF (σ:ec) (mb:Nat) (es:List lf):a':=q6 mb (ou es)::es.map (ig σ)
theorem ad.M4 {P:Program} {N:Nat} {Q:b8→Env→ao→Prop} {env:Env} {s:ao} {c:Code} (σ:ec):∀ (es:List fV) (A:a'),(∀ e∈es,se e.bt (σ e.sp).bl∧(σ e.sp).bl.length<bu)→Ok s (A++es.flatMap (iJ σ)) →
    (Ok s (A++es.map fun e=>ig σ (e.sp,e.b))→ad P N c Q env (aT s (A++es.map fun e=>ig σ (e.sp,e.b))))→ad P N c Q env (aT s (A++es.flatMap (iJ σ)))
  | [],A,_,I,h=>h I
  | e::es,A,au,I,h=>by
    have aq:=bC;obtain ⟨k1,kY⟩:=au e i7;have Ws:Ok s ((A++[ig σ (e.sp,e.b)])++es.flatMap (iJ σ))→ad P N c Q env (aT s ((A++[ig σ (e.sp,e.b)])++es.flatMap (iJ σ))):=fun I=>by
      refine ad.M4 σ es (A++[ig σ (e.sp,e.b)]) (fun x ab=>au x (i5 _ ab)) I ?_;intro I;rw [ae'] at I ⊢;exact h I
    have l2:Ok s (ig σ (e.sp,e.b)::(A++es.flatMap (iJ σ)))→ad P N c Q env (aT s (ig σ (e.sp,e.b)::(A++es.flatMap (iJ σ)))):=fun I=>by
      refine ad.mq I ((A++[ig σ (e.sp,e.b)])++es.flatMap (iJ σ)) (aH.iw ?_) Ws;rw [ae'];exact (ak9 (l₁:=A)).symm
    rw [ah4] at I ⊢;refine ad.mq I (iJ σ e++(A++es.flatMap (iJ σ))) (aH.iw (as8 _ _ _)) (fun aD=>?_);clear I;have p3:cR (kO (σ e.sp) (.aC 1 ((σ e.sp).e2.map bb) e.on) (.aC 1 ((σ e.sp).bl.map bb) .bc)) (kO (σ e.sp) (.aC 1 ((σ e.sp).e2.map bb) .bc) (.aC 1 ((σ e.sp).bl.map bb) .bc)) := .cons aM (.cons aM (.cons aS.bc (cR.refl _)));unfold iJ pe at aD ⊢;rcases dd:e.bt with _|⟨g,cap,eg⟩
    · rw [dd] at aD k1
      have br:(σ e.sp).bl=[]:=k1;have Wt:cR (kO (σ e.sp) (.aC 1 ((σ e.sp).e2.map bb) e.on) (la none (σ e.sp).bl)) (kO (σ e.sp) (.aC 1 ((σ e.sp).e2.map bb) .bc) (.aC 1 ((σ e.sp).bl.map bb) .bc)):=by
        rw [br];exact .cons aM (.cons aM (.cons aS.bc (.cons aM (.cons aM (.cons aM (.cons aM (.one aS.empty)))))))
      refine ad.wv aD e.b _ .here Wt (fun aD=>?_);refine ad.mq aD (ig σ (e.sp,e.b)::(A++es.flatMap (iJ σ))) (.cons .here (aH.there (e:=(e.on,.row 3 1 (σ e.sp).e2.length)) (aH.all (A++es.flatMap (iJ σ))))) l2
    · rw [dd] at aD k1
      have kC:(σ e.sp).bl.length+eg.length=cap:=k1;refine ad.Hw aD 7 .here (.there .here) C cE ag ag G8 (fun aD=>?_);rw [an6 ba] at aD ⊢;refine ad.wv aD e.b _ .here p3 (fun aD=>?_);refine ad.mq aD (ig σ (e.sp,e.b)::(A++es.flatMap (iJ σ))) (.cons .here (aH.there (e:=(e.on,.row 3 1 (σ e.sp).e2.length)) (aH.all (A++es.flatMap (iJ σ))))) l2
structure xe (n:Nat) (E:List lf) (σ:ec) (es:List lf):Prop where
 four:∀ e∈es,e.1.length=4
 rest:∀ q,q∉es.map Prod.fst→σ q=iX
 mE:∀ q,mD n (σ q)
 td:∀ x∈E,x∈es
def Wu (n:Nat) (σ:ec) (mb:Nat) (v:af) (o:eB) (K:a'):Prop:=o = .ret v∧∃ es,K=mF σ mb es∧xe n [] σ es
theorem Wv (w:bx) (hw:w.ps.length≤60) (l:List cg) (aB:3*l.length+3<bu) (ab:∀ x∈l,tG w x) :
  bE d0 248 [gn w,p6 l] [] (fun o K=>∃ mb,Wu (3*l.length) (ev l) mb (h6 w mb) o K):=by
 have aq:=bC;refine bE.bj ai Tryz.func248 C C fun s I=>?_
 unfold gn e6;refine dL ?_;refine aa.rN I C C C C (fun mb I=>?_);refine bB ?_;refine ad.b0 [5,12,13] C I (σ:=Nat×List fV) (fun q=>[(14,.int .i64 (q.1:Int))]) (fun q=>l5 (ev (l.take q.1)) mb q.2) (fun q=>q.1≤l.length∧pf (3*q.1) (ev (l.take q.1)) q.2) (fun q=>l.length-q.1) (0,[]) ⟨g7 _,⟨by simp,by simp,fun q _=>rfl,by simp,fun q=>VW _⟩⟩ (ck C) (aH.all _) ?_;rintro ⟨j,es⟩ ⟨aK,cH⟩ I;simp only at aK cH I ⊢;refine b2 ?_;refine ad.cond C (fun ar=>?_) (fun aV=>?_);rotate_left
 ·have aV:j=l.length:=by simp at aV;omega
  subst aV;rw [ac6] at cH I ⊢;refine ad.M4 (ev l) es [q6 mb (m9 es)] (fun e he=>⟨cH.bt e he,by have:=(cH.mE e.sp).bl;omega⟩) I (fun I=>?_);refine dB ?_;refine Fin.bz I C aM (aH.all _) ⟨mb,rfl,es.map (fun e=>(e.sp,e.b)),?_,?_,?_,cH.mE,by simp⟩
  ·unfold mF ou m9
   simp [List.map_map,Function.comp_def]
  ·intro e he
   obtain ⟨x,ab,rfl⟩:=ad7.1 he;exact cH.four x ab
  ·intro q bq
   refine cH.rest q (fun hm=>bq ?_);obtain ⟨x,ab,rfl⟩:=ad7.1 hm;exact ad7.2 ⟨(x.sp,x.b),ad7.2 ⟨x,ab,rfl⟩,rfl⟩
 have ar:j<l.length:=by simpa using ar
 obtain ⟨x,ay,c'⟩:=bV (f:=h4) ar;have au:ev (l.take (j+1))=addLit (ev (l.take j)) x:=by
  unfold ev;rw [iH ay,am6];rfl
 have a8:=Wp w hw mb _ _ es cH ag x (ab x (d5 ay));unfold h6 gn e6 at a8;unfold h4 pX aj.cells at c' a8
 repeat (first|(refine CR I ?_;clear I;intro I)|refine aa.d' ai I rfl rfl rfl rfl rfl rfl rfl (fun cy I=>?_))
 refine aa.b9 rfl rfl rfl rfl rfl a8 I (aH.all _).there ?_ (fun _ _ ⟨h,_⟩ _=>by cases h);rintro _ _ ⟨⟨⟩,dy,rfl,jl⟩ I;refine fu ?_;refine bn.mk (j+1,dy) I ⟨ar,?_⟩ b' (by show aH _ (l5 (ev (l.take (j+1))) mb dy) _;rw [au];exact aH.jx (aH.all _)) l3;rw [au];exact jl
theorem Ww {es:List lf} {sp:List Int}:(ou es).find? (fun e=>e.1==sp)=none↔sp∉es.map Prod.fst:=by
 unfold ou;rw [at0];constructor
 ·intro h hm
  obtain ⟨e,he,rfl⟩:=ad7.1 hm;have:=h _ (ad7.2 ⟨e,he,rfl⟩);simp at this
 ·intro h x ab
  obtain ⟨e,he,rfl⟩:=ad7.1 ab;simp only [beq_iff_eq];intro b1;exact h (ad7.2 ⟨e,he,b1⟩)
theorem Wx {es:List lf} {sp:List Int} {x:List Int×af} (h:(ou es).find? (fun e=>e.1==sp)=some x):∃ e∈es,e.1=sp∧x=(e.1,.ptr e.2 0):=by
 unfold ou at h;have U:=aq4 h;have ae:=au3 h;obtain ⟨e,he,rfl⟩:=ad7.1 U;exact ⟨e,he,by simpa using ae,rfl⟩
theorem xf (w:bx) (mb n:Nat) (σ:ec) (es:List lf) {E:List lf} (cH:xe n E σ es) (hL ek dj dT:Int) :
  bE d0 280 [h6 w mb,iI [hL,ek,dj,dT]] (mF σ mb es) (fun o K=>∃ b R,o = .ret (.ptr b 0)∧(∃ dy,(ig σ ([hL,ek,dj,dT],b)::R).Perm (mF σ mb dy)∧xe n E σ dy∧([hL,ek,dj,dT],b)∈dy)∧K=ig σ ([hL,ek,dj,dT],b)::R):=by
 have h:=Mt (.aC 1 [] .bc) (.aC 1 [] .bc) aS.empty aS.empty w mb (ou es) (fun e he=>by
  unfold ou at he
  obtain ⟨x,ab,rfl⟩:=ad7.1 he
  exact cH.four x ab) hL ek dj dT
 refine bE.frame h (R:=es.map (ig σ)) (.cons .here .nil) ?_;rintro o aO (⟨x,ab,rfl,rfl⟩|⟨aZ,b,rfl,rfl⟩)
 ·obtain ⟨⟨sp,b⟩,he,U,rfl⟩:=Wx ab
  simp only at U;subst U;obtain ⟨pre,post,rfl⟩:=ar3 he;have aE:((q6 mb (ou (pre++([hL,ek,dj,dT],b)::post)))::(pre++([hL,ek,dj,dT],b)::post).map (ig σ)).Perm (ig σ ([hL,ek,dj,dT],b)::(q6 mb (ou (pre++([hL,ek,dj,dT],b)::post))::(pre.map (ig σ)++post.map (ig σ)))):=by
   rw [ac2,ac4];exact ((ak9).cons _).trans (aj7.swap _ _ _)
  exact ⟨[],_,by simp,aE,b,_,rfl,⟨_,aE.symm,cH,by simp⟩,rfl⟩
 ·have lJ:=Ww.1 aZ
  have AL:=cH.rest _ lJ;have cb:ig σ ([hL,ek,dj,dT],b)=(.own b,.box 340 (kO iX (.aC 1 [] .bc) (.aC 1 [] .bc))):=by
   unfold ig;simp only [AL];rfl
  refine ⟨[],ig σ ([hL,ek,dj,dT],b)::(q6 mb (ou (es++[([hL,ek,dj,dT],b)]))::es.map (ig σ)),by simp,?_,b,_,rfl,⟨es++[([hL,ek,dj,dT],b)],?_,?_,by simp⟩,rfl⟩
  ·rw [cb]
   have b1:ou (es++[([hL,ek,dj,dT],b)])=ou es++[([hL,ek,dj,dT],.ptr b 0)]:=by unfold ou;rw [ac2];rfl
   rw [b1];exact aj7.swap _ _ _
  ·unfold mF
   rw [ac2];refine (aj7.swap _ _ _).trans (aj7.cons _ ?_);exact ap7 (l₁:=[ig σ ([hL,ek,dj,dT],b)])
  ·refine ⟨fun e he=>?_,fun q bq=>cH.rest q (fun hm=>bq (by rw [ac2];exact ai5 _ hm)),cH.mE,fun x ab=>ai5 _ (cH.td x ab)⟩
   rcases ac9.1 he with he|he
   ·exact cH.four e he
   ·rw [z2] at he;subst he;rfl
theorem Wy (fv:af) (q:Int→Bool) (acW:a'→Prop) (xs:List Int) (aB:xs.length<bu) (h:∀ x∈xs,∀ K,acW K→dt d0 fv [bb x] K (fun o aO=>o = .ret (.bool (q x))∧acW aO)) (K:a') (ak:acW K) :
  bE d0 90 [.aC 1 (xs.map bb) .bc,fv] K (fun o aO=>o = .ret (.int .i64 (match xs.findIdx? q with|some i=>(i:Int)|none => -1))∧acW aO):=by
 have aq:=bC;refine bE.bj ai Tryz.func90 C C fun s I=>?_
 refine gg ?_;refine ad.b0 [0,1,7] C I (σ:=Nat×a') (fun j=>[(8,.int .i64 (j.1:Int))]) (fun j=>j.2) (fun j=>j.1≤xs.length∧acW j.2∧∀ i y,i<j.1→xs[i]? = some y→q y=false) (fun j=>xs.length-j.1) (0,K) ⟨g7 _,ak,fun i y aQ=>absurd aQ (al' _)⟩ (ck C) (aH.all _) ?_;rintro ⟨j,A9⟩ ⟨aK,Hy,cD⟩ I;simp only at aK Hy cD I ⊢;refine b2 ?_;refine ad.cond C (fun ar=>?_) (fun aV=>?_)
 ·have ar:j<xs.length:=by simpa using ar
  obtain ⟨x,ab,bL⟩:=bV (f:=bb) ar;have av:=h x (d5 ab) A9 Hy;unfold bb at bL av;refine bB ?_;refine aa.gM rfl rfl rfl rfl rfl rfl av I (aH.all _) ?_ (fun _ _ ⟨h,_⟩ _=>by cases h);rintro _ iK ⟨⟨⟩,kN⟩ I;rw [d7] at I ⊢;cases bq:q x with
  | true=>
   rw [K9 q xs j x ab bq cD];refine e5 ?_;exact Fin.bz I C aM (aH.all _) ⟨rfl,kN⟩
  | false=>
   refine bB ?_
   exact bn.mk (j+1,iK) I ⟨ar,kN,fun i y aQ ay=>by
    rcases af1.1 aQ with aQ|rfl
    ·exact cD i y aQ ay
    ·rw [ab] at ay;cases ay;exact bq⟩ b' (aH.all _) rR
 ·have aV:j=xs.length:=by simp at aV;omega
  subst aV;rw [K' q xs (fun i y ay=>cD i y (qM ay) ay)];refine dB ?_;exact Fin.bz I C aM (aH.all _) ⟨rfl,Hy⟩
theorem Wz {α:Type} (q:α→Bool) (l:List α):decide ((match l.findIdx? q with|some i=>(i:Int)|none => -1)≥0)=l.any q:=by
 cases h:l.findIdx? q with
 | none=>
  rw [af8] at h;have:l.any q=false:=by rw [ai3];intro x ab;rw [h x ab];simp
  rw [this];rfl
 | some i=>
  rw [ae8] at h;obtain ⟨aQ,U,_⟩:=h;have:l.any q=true:=ae2.2 ⟨_,aj6 aQ,U⟩;rw [this];simp
theorem WA (fv:af) (q:Int→Bool) (acW:a'→Prop) (xs:List Int) (aB:xs.length<bu) (h:∀ x∈xs,∀ K,acW K→dt d0 fv [bb x] K (fun o aO=>o = .ret (.bool (q x))∧acW aO)) (K:a') (ak:acW K) :
  bE d0 40 [.aC 1 (xs.map bb) .bc,fv] K (fun o aO=>o = .ret (.bool (xs.any q))∧acW aO):=by
 rw [← Wz];have aA:=Wy fv q acW xs aB h K ak;refine bE.bj ai Tryz.func40 C C fun s I=>?_
 refine dL ?_;refine aa.b9 rfl rfl rfl rfl rfl aA I (aH.all _) ?_ (fun _ _ ⟨h,_⟩ _=>by cases h);rintro _ iK ⟨⟨⟩,kN⟩ I;rw [d7] at I ⊢;refine eD ?_;exact Fin.bz I C aM (aH.all _) ⟨rfl,kN⟩
theorem WB (f:FuncId) (iu hr:List af) (q:Int→Bool) (acW:a'→Prop) (xs:List Int) (aB:xs.length<bu) (h:∀ x∈xs,∀ K,acW K→dt d0 (.func f iu hr) [bb x] K (fun o aO=>o = .ret (.bool (q x))∧acW aO)) (K:a') (ak:acW K) :
  bE d0 198 [.aC 1 (xs.map bb) .bc,.func f iu hr] K (fun o aO=>o = .ret (.bool (xs.all q))∧acW aO):=by
 have U:∀ x∈xs,∀ K,acW K→dt d0 (.func 233 [] [.bA [.func f iu hr] 0]) [bb x] K (fun o aO=>o = .ret (.bool (!q x))∧acW aO):=fun x ab K bh=>by
  refine dt.fp (first:=[]) (cap:=[.bA [.func f iu hr] 0]) ?_;refine bE.bj ai Tryz.func233 C C fun s I=>?_
  have av:=h x ab K bh;unfold bb at av ⊢;refine dL ?_;refine aa.gM rfl rfl rfl rfl rfl rfl av I (aH.all _) ?_ (fun _ _ ⟨h,_⟩ _=>by cases h);rintro _ iK ⟨⟨⟩,kN⟩ I;rw [d7] at I ⊢;refine eD ?_;exact Fin.bz I C aM (aH.all _) ⟨rfl,kN⟩
 rw [← AD];have aA:=WA _ (fun x => !q x) acW xs aB U K ak;refine bE.bj ai Tryz.func198 C C fun s I=>?_
 refine dL ?_;refine aa.b9 rfl rfl rfl rfl rfl aA I (aH.all _) ?_ (fun _ _ ⟨h,_⟩ _=>by cases h);rintro _ iK ⟨⟨⟩,kN⟩ I;rw [d7] at I ⊢;refine eD ?_;exact Fin.bz I C aM (aH.all _) ⟨rfl,kN⟩
theorem M5 (arg:Int) (path:List Int) (bt:Int) (h:path.length<2):aR d0 281 [iI (bw arg path),.int .i64 bt] (iI (bw arg (path++[bt]))):=by
 match path,h with
 | [],_=>exact Mu arg 0 0 bt
 | [a],_=>exact Mv arg a 0 bt
structure u9 (n:Nat) (σ:ec):Prop where
 deep:∀ arg path,2≤path.length→(σ (bw arg path)).bl=[]
 mE:∀ q,mD n (σ q)
def l6 (n:Nat) (E:List lf) (σ:ec) (mb:Nat) (K:a'):Prop:=∃ es,K=mF σ mb es∧xe n E σ es
def A' (σ:ec) (arg:Int) (path:List Int):Bool:=(σ (bw arg path)).bl.all fun s => !(σ (bw arg (path++[s]))).gB
theorem WC (w:bx) (mb n:Nat) (σ:ec) (arg:Int) (path:List Int) (aE:path.length<2) (bt:Int) {E:List lf} (K:a') (bh:l6 n E σ mb K) :
  dt d0 (.func 315 [] [.bA [h6 w mb] 0,.bA ((bw arg path).map (af.int .i64)) 0]) [bb bt] K (fun o aO=>o = .ret (.bool (!(σ (bw arg (path++[bt]))).gB))∧l6 n E σ mb aO):=by
 obtain ⟨es,rfl,cH⟩:=bh;have U:=M5 arg path bt aE;have ae:=xf w mb n σ es cH arg ((path++[bt]).length:Int) ((path++[bt]).getD 0 0) ((path++[bt]).getD 1 0);refine dt.fp (first:=[]) (cap:=[.bA [h6 w mb] 0,.bA ((bw arg path).map (af.int .i64)) 0]) ?_;refine bE.bj ai Tryz.func315 C C fun s I=>?_
 unfold h6 at *;unfold iI kr at U;refine oX ?_;refine aJ.kM rfl rfl rfl rfl rfl rfl ae I (aH.all _) ?_ (fun _ _ ⟨_,_,h,_⟩ _=>by cases h);rintro _ _ ⟨b,R,⟨⟩,⟨dy,e9,jl,gb⟩,rfl⟩ I;rw [d7] at I ⊢;refine cG I ?_;intro I;exact Fin.bz I C aM (aH.iw e9) ⟨rfl,dy,rfl,jl⟩
theorem WD (w:bx) (mb n:Nat) (az:n<bu) (σ:ec) (cj:u9 n σ) (arg:Int) (path:List Int) (aE:path.length≤2) {E:List lf} (K:a') (bh:l6 n E σ mb K) :
    bE d0 305 [h6 w mb,iI (bw arg path)] K (fun o aO=>o = .ret (.bool (A' σ arg path))∧l6 n E σ mb aO):=by
  obtain ⟨es,rfl,cH⟩:=bh;have ae:=xf w mb n σ es cH arg (path.length:Int) (path.getD 0 0) (path.getD 1 0);have lr:=(cj.mE (bw arg path)).bl
  have an:=WB 315 [] [.bA [h6 w mb] 0,.bA ((bw arg path).map (af.int .i64)) 0] (fun s => !(σ (bw arg (path++[s]))).gB) (l6 n E σ mb) (σ (bw arg path)).bl ag (fun x ab K bh=>by
    have hQ:path.length<2:=by
      rcases am0 path.length 2 with h|h
      · exact h
      · rw [cj.deep arg path h] at ab;cases ab
    exact WC w mb n σ arg path hQ x K bh)
  refine bE.bj ai Tryz.func305 C C fun s I=>?_
  unfold h6 at *;unfold iI kr at *;refine dL ?_;refine aa.b9 rfl rfl rfl rfl rfl ae I (aH.all _) ?_ (fun _ _ ⟨_,_,h,_⟩ _=>by cases h);rintro _ _ ⟨b,R,⟨⟩,⟨dy,e9,jl,gb⟩,rfl⟩ I;rw [d7] at I ⊢;unfold ig at I ⊢;refine cG I ?_;intro I;refine aa.mq I (mF σ mb dy) (aH.iw e9) (fun I=>?_);refine aa.b9 rfl rfl rfl rfl rfl (an _ ⟨dy,rfl,jl⟩) I (aH.all _) ?_ (fun _ _ ⟨h,_⟩ _=>by cases h);rintro _ iK ⟨⟨⟩,ov⟩ I;rw [d7] at I ⊢;refine eD ?_;exact Fin.bz I C aM (aH.all _) ⟨rfl,ov⟩
def u' (σ:ec) (arg:Int) (path:List Int) (c:Nat):Bool:=
 decide (k2 (σ (bw arg path)).fU (1|||2^c)=0)&&(decide ((σ (bw arg path)).no &&& (1|||2^c)=0)&&A' σ arg path)
theorem Ba (m:Nat):(((m:Nat):Int)==0)=decide (m=0):=by
 rw [ad3,beq_iff_eq,g8];omega
theorem M6 (w:bx) (mb n:Nat) (az:n<bu) (σ:ec) (cj:u9 n σ) (arg:Int) (path:List Int) (aE:path.length≤2) (c:Nat) (aA:c<3) {E:List lf} (K:a') (bh:l6 n E σ mb K) :
  bE d0 291 [h6 w mb,iI (bw arg path),.int .i64 (c:Int)] K (fun o aO=>o = .ret (.bool (u' σ arg path c))∧l6 n E σ mb aO):=by
 obtain ⟨es,rfl,cH⟩:=bh;have ae:=xf w mb n σ es cH arg (path.length:Int) (path.getD 0 0) (path.getD 1 0);have lr:=cj.mE (bw arg path);have U:=GD c ag;have kD:1|||2^c<2^64:=ag9 dW (ag1 ag ag)
 have an:=fun K bh=>WD (E:=E) w mb n az σ cj arg path aE K bh
 have hm:u' σ arg path c=(decide (k2 (σ (bw arg path)).fU (1|||2^c)=0)&&(decide ((σ (bw arg path)).no &&& (1|||2^c)=0)&&A' σ arg path)):=rfl;refine bE.bj ai Tryz.func291 C C fun s I=>?_
 unfold h6 at *;unfold iI kr at *;refine dL ?_;refine aa.b9 rfl rfl rfl rfl rfl ae I (aH.all _) ?_ (fun _ _ ⟨_,_,h,_⟩ _=>by cases h);rintro _ _ ⟨b,R,⟨⟩,⟨dy,e9,jl,gb⟩,rfl⟩ I;rw [d7] at I ⊢;unfold ig at I ⊢;refine cG I ?_;intro I;refine aa.bits ((k2 (σ (bw arg path)).fU (1|||2^c):Nat):Int) C C C C C C (C1 lr.fU kD) ?_;refine dS ?_;cases p4:decide (k2 (σ (bw arg path)).fU (1|||2^c)=0) with
 | false=>
  refine aa.c2 21 C (by rw [Ba];exact p4) ?_;refine ew ?_;rw [p4,f5] at hm;exact Fin.bz I C aM (aH.iw e9) ⟨by rw [hm],dy,rfl,jl⟩
 | true=>
  refine aa.ds 21 C (by rw [Ba];exact p4) ?_;refine cG I ?_;intro I;refine aa.bits (((σ (bw arg path)).no &&& (1|||2^c):Nat):Int) C C C C C C (uH lr.no kD) ?_;refine dS ?_;cases lx:decide ((σ (bw arg path)).no &&& (1|||2^c)=0) with
  | false=>
   refine aa.c2 30 C (by rw [Ba];exact lx) ?_;refine ew ?_;rw [p4,lx,f0,f5] at hm;exact Fin.bz I C aM (aH.iw e9) ⟨by rw [hm],dy,rfl,jl⟩
  | true=>
   refine aa.ds 30 C (by rw [Ba];exact lx) ?_;refine dS ?_;refine aa.mq I (mF σ mb dy) (aH.iw e9) (fun I=>?_);refine aa.b9 rfl rfl rfl rfl rfl (an _ ⟨dy,rfl,jl⟩) I (aH.all _) ?_ (fun _ _ ⟨h,_⟩ _=>by cases h);rintro _ iK ⟨⟨⟩,ov⟩ I;rw [d7] at I ⊢;refine eD ?_;rw [p4,lx,f0,f0] at hm;exact Fin.bz I C aM (aH.all _) ⟨by rw [hm],ov⟩
def xg (σ:ec) (arg:Int) (path:List Int):Bool := !(σ (bw arg path)).whole&&u' σ arg path 2
theorem WE (w:bx) (mb n:Nat) (az:n<bu) (σ:ec) (cj:u9 n σ) (arg:Int) (path:List Int) (aE:path.length≤2) {E:List lf} (K:a') (bh:l6 n E σ mb K) :
  bE d0 284 [h6 w mb,iI (bw arg path)] K (fun o aO=>o = .ret (.bool (xg σ arg path))∧l6 n E σ mb aO):=by
 obtain ⟨es,rfl,cH⟩:=bh;have ae:=xf w mb n σ es cH arg (path.length:Int) (path.getD 0 0) (path.getD 1 0);have an:=fun K bh=>M6 (E:=E) w mb n az σ cj arg path aE 2 ag K bh
 have hm:xg σ arg path=(!(σ (bw arg path)).whole&&u' σ arg path 2):=rfl;refine bE.bj ai Tryz.func284 C C fun s I=>?_
 unfold h6 at *;unfold iI kr at *;refine dL ?_;refine aa.b9 rfl rfl rfl rfl rfl ae I (aH.all _) ?_ (fun _ _ ⟨_,_,h,_⟩ _=>by cases h);rintro _ _ ⟨b,R,⟨⟩,⟨dy,e9,jl,gb⟩,rfl⟩ I;rw [d7] at I ⊢;unfold ig at I ⊢;refine cG I ?_;intro I;cases hw:(σ (bw arg path)).whole with
 | true=>
  refine aa.c2 12 C (by show (!(σ (bw arg path)).whole)=false;rw [hw];rfl) ?_;refine ew ?_;rw [hw] at hm;exact Fin.bz I C aM (aH.iw e9) ⟨by rw [hm];rfl,dy,rfl,jl⟩
 | false=>
  refine aa.ds 12 C (by show (!(σ (bw arg path)).whole)=true;rw [hw];rfl) ?_;refine dS ?_;refine aa.mq I (mF σ mb dy) (aH.iw e9) (fun I=>?_);refine aa.b9 rfl rfl rfl rfl rfl (an _ ⟨dy,rfl,jl⟩) I (aH.all _) ?_ (fun _ _ ⟨h,_⟩ _=>by cases h);rintro _ iK ⟨⟨⟩,ov⟩ I;rw [d7] at I ⊢;refine eD ?_;rw [hw] at hm;exact Fin.bz I C aM (aH.all _) ⟨by rw [hm];rfl,ov⟩
def l7:Nat→Int→List Int→Int
 | 0,n,_=>n
 | k+1,n,l=>if l.contains n then l7 k (n+1) l else n
def xh (k:dp):Int:=l7 (k.e2.length+1) k.low k.e2
def xi (σ:ec) (arg:Int) (path:List Int):Bool:=decide (xh (σ (bw arg path))≤(σ (bw arg path)).high)&&u' σ arg path 1
def ow (n:Int) (l:List Int):Nat:=(l.filter fun x=>decide (x≥n)).length
theorem Hz (n:Int) (l:List Int):ow n l≤l.length:=List.length_filter_le _ _
theorem M7 (n:Int):∀ l:List Int,ow (n+1) l≤ow n l
  | []=>i0 _
  | x::r=>by
    have a6:=M7 n r;unfold ow at *;rw [ah3,ah3];by_cases U:x≥n+1
    · rw [f9 th,f9 cE,i8,i8];omega
    · rw [d9 th]
      split
      · rw [i8];omega
      · exact a6
theorem DF {n:Int}:∀ {l:List Int},n∈l→ow (n+1) l<ow n l
  | x::r,h=>by
    have br:=M7 n r;unfold ow at *;rw [ah3,ah3];rcases ad1.1 h with rfl|h
    · rw [d9 cE,f9 ba,i8];omega
    · have a6:=DF h
      unfold ow at a6;by_cases U:x≥n+1
      · rw [f9 th,f9 cE,i8,i8];omega
      · rw [d9 th]
        split
        · rw [i8];omega
        · exact a6
theorem DG:∀ (f mV:Nat) (n:Int) (l:List Int),ow n l<f→ow n l<mV→l7 f n l=l7 mV n l
  | f+1,mV+1,n,l,h,eX=>by
    rw [l7,l7];cases aA:l.contains n with
    | false=>rfl
    | true=>
      have:=DF (n:=n) (l:=l) (by simpa using aA);simp only [if_true];exact DG f mV (n+1) l ag ag
theorem WG (w:bx) (mb n:Nat) (az:n<bu) (σ:ec) (cj:u9 n σ) (arg:Int) (path:List Int) (aE:path.length≤2) {E:List lf} (K:a') (bh:l6 n E σ mb K) :
  bE d0 283 [h6 w mb,iI (bw arg path)] K (fun o aO=>o = .ret (.cu [.int .i64 (xh (σ (bw arg path))),.bool (xi σ arg path)])∧l6 n E σ mb aO):=by
 have aq:=bC;obtain ⟨es,rfl,cH⟩:=bh;have ae:=xf w mb n σ es cH arg (path.length:Int) (path.getD 0 0) (path.getD 1 0);have an:=fun K bh=>M6 (E:=E) w mb n az σ cj arg path aE 1 ag K bh
 have hm:xi σ arg path=(decide (xh (σ (bw arg path))≤(σ (bw arg path)).high)&&u' σ arg path 1):=rfl;have lr:=cj.mE (bw arg path);have uu:=lr.e2;have om:=lr.num;have WH:xh (σ (bw arg path))=l7 (ow (σ (bw arg path)).low (σ (bw arg path)).e2+1) (σ (bw arg path)).low (σ (bw arg path)).e2:=DG _ _ _ _ (by have:=Hz (σ (bw arg path)).low (σ (bw arg path)).e2;omega) ag;have ib:=fun v=>yd (σ (bw arg path)).e2 v ag
 refine bE.bj ai Tryz.func283 C C fun s I=>?_
 unfold h6 at *;unfold iI kr at *;refine dL ?_;refine aa.b9 rfl rfl rfl rfl rfl ae I (aH.all _) ?_ (fun _ _ ⟨_,_,h,_⟩ _=>by cases h);rintro _ _ ⟨b,R,⟨⟩,⟨dy,e9,jl,gb⟩,rfl⟩ I;rw [d7] at I ⊢;unfold ig at I ⊢;refine cG I ?_;intro I;refine ad.b0 [0,3,6] C I (σ:=Int) (fun v=>[(7,.int .i64 v)]) (fun _=>ig σ ([arg,(path.length:Int),path.getD 0 0,path.getD 1 0],b)::R) (fun v=>xh (σ (bw arg path))=l7 (ow v (σ (bw arg path)).e2+1) v (σ (bw arg path)).e2∧(σ (bw arg path)).low≤v∧v≤(σ (bw arg path)).low+((σ (bw arg path)).e2.length-ow v (σ (bw arg path)).e2:Nat)) (fun v=>ow v (σ (bw arg path)).e2) (σ (bw arg path)).low ⟨WH,ai0 _,by omega⟩ (ck C) (aH.all _) ?_;rintro v ⟨av,uo,mP⟩ I;unfold ig at I ⊢;have u2:=ib v;unfold bg at u2;cases aA:(σ (bw arg path)).e2.contains v with
 | true=>
  rw [aA] at u2;have ar:=DF (n:=v) (l:=(σ (bw arg path)).e2) (by simpa using aA);have hle:=Hz v (σ (bw arg path)).e2;rw [l7,aA] at av;simp only [if_true] at av;have df:H1 .i64 (v+1)=v+1:=eo ag ag;refine hl I ?_;intro I;refine bn.mk (v+1) I ⟨?_,by omega,by omega⟩ (by repeat (first|exact trivial|refine ⟨⟨_,rfl,aM⟩,?_⟩|refine ⟨⟨_,rfl,aS.of_eq (by (rw [df]))⟩,?_⟩)) (aH.all _) ar;rw [av];exact DG _ _ _ _ ag ag
 | false=>
  rw [aA] at u2;rw [l7,aA] at av;simp only [ad4,if_false] at av;subst av;refine cG I ?_;intro I;cases ax:decide (xh (σ (bw arg path))≤(σ (bw arg path)).high) with
  | false=>
   refine aa.c2 33 C ax ?_;refine ew ?_;rw [ax] at hm;exact Fin.bz I C aM (aH.iw e9) ⟨by rw [hm];rfl,dy,rfl,jl⟩
  | true=>
   refine aa.ds 33 C ax ?_;refine dS ?_;refine aa.mq I (mF σ mb dy) (aH.iw e9) (fun I=>?_);refine aa.b9 rfl rfl rfl rfl rfl (an _ ⟨dy,rfl,jl⟩) I (aH.all _) ?_ (fun _ _ ⟨h,_⟩ _=>by cases h);rintro _ iK ⟨⟨⟩,ov⟩ I;rw [d7] at I ⊢;refine eD ?_;rw [ax] at hm;exact Fin.bz I C aM (aH.all _) ⟨by rw [hm];rfl,ov⟩
def jS (w:bx) (s:Int):Nat:=(w.owner.getD s.toNat 0).toNat
def pj (w:bx) (σ:ec) (cn:List Int→Bool) (arg:Int) (path:List Int):List Int→Nat→Nat→Option (Nat×Nat)
 | [],m,n=>some (m,n)
 | s::r,m,n=>
  if (σ (bw arg (path++[s]))).gB && !cn (path++[s]) then none
  else if (σ (bw arg (path++[s]))).gB then pj w σ cn arg path r (m|||2^jS w s) n
  else if cn (path++[s]) then pj w σ cn arg path r m n
  else pj w σ cn arg path r m (n|||2^jS w s)
def tM (w:bx) (m:Nat) (i:Nat):Nat:=if m.testBit (3+i) then m|||(ey w.ps).getD (3+i) 0 else m
def re (w:bx) (m:Nat):Nat:=(ae7 w.ps.length).foldl (tM w) m
def xj (w:bx) (σ:ec) (cn:List Int→Bool) (arg:Int) (path:List Int):Nat×Bool:=
 if (σ (bw arg path)).whole||((σ (bw arg path)).fU.testBit 1||((σ (bw arg path)).fU.testBit 2||(σ (bw arg path)).no.testBit 0)) then (0,false)
 else match pj w σ cn arg path (σ (bw arg path)).bl (σ (bw arg path)).fU (σ (bw arg path)).no with
  | none=>(0,false)
  | some (m,n)=>(k2 (re w m) 1,decide (k2 (re w m) 1 &&& n=0))
theorem bp.A1 {o:bM} {dI:dG}:∀ {L:a'},(o,dI)∈L→∃ R,bp L o dI R
  | e::L,h=>by
    rcases ad1.1 h with rfl|h
    · exact ⟨_,bp.here⟩
    · obtain ⟨R,h⟩:=bp.A1 h
      exact ⟨_,bp.there h⟩
structure DH (w:bx) (σ:ec):Prop where
 slot:∀ q,∀ x∈(σ q).bl,0≤x∧x<(w.owner.length:Int)
def M8 (w:bx) (mb n:Nat) (σ:ec) (arg:Int) (cn:List Int→Bool) (path:List Int):Prop:=
 ∀ (E:List lf) (K:a'),l6 n E σ mb K→bE d0 270 [h6 w mb,iI (bw arg path)] K (fun o aO=>o = .ret (.bool (cn path))∧l6 n E σ mb aO)
theorem WI (w:bx) (hw:fT w) (mb n:Nat) (az:n<bu) (σ:ec) (cj:u9 n σ) (gO:DH w σ) (arg:Int) (path:List Int) (aE:path.length≤2) (cn:List Int→Bool) (sk:path.length<2→∀ s,M8 w mb n σ arg cn (path++[s])) {E:List lf} (K:a') (bh:l6 n E σ mb K) :
  bE d0 285 [h6 w mb,iI (bw arg path)] K (fun o aO=>o = .ret (.cu [.int .u64 ((xj w σ cn arg path).1:Int),.bool (xj w σ cn arg path).2])∧l6 n E σ mb aO):=by
 have aq:=bC;obtain ⟨es,rfl,cH⟩:=bh;have ae:=xf w mb n σ es cH arg (path.length:Int) (path.getD 0 0) (path.getD 1 0);have lr:=cj.mE (bw arg path);have hm:xj w σ cn arg path=if (σ (bw arg path)).whole||((σ (bw arg path)).fU.testBit 1||((σ (bw arg path)).fU.testBit 2||(σ (bw arg path)).no.testBit 0)) then (0,false)
  else match pj w σ cn arg path (σ (bw arg path)).bl (σ (bw arg path)).fU (σ (bw arg path)).no with
   | none=>(0,false)
   | some (m,n)=>(k2 (re w m) 1,decide (k2 (re w m) 1 &&& n=0)):=rfl
 have g1:=yo (σ (bw arg path)).fU 1 lr.fU ag;have g2:=yo (σ (bw arg path)).fU 2 lr.fU ag;have g0:=yo (σ (bw arg path)).no 0 lr.no ag;have kK:=fun bt h=>M5 arg path bt h
 refine bE.bj ai Tryz.func285 C C fun s I=>?_
 unfold h6 at *;unfold iI kr at *;refine dL ?_;refine aa.b9 rfl rfl rfl rfl rfl ae I (aH.all _) ?_ (fun _ _ ⟨_,_,h,_⟩ _=>by cases h);rintro _ _ ⟨b,R,⟨⟩,⟨dy,e9,jl,gb⟩,rfl⟩ I;rw [d7] at I ⊢;unfold ig at I ⊢;refine tf I ?_;intro I;cases yM:(σ (bw arg path)).whole with
 | true=>
  refine aa.ds 30 C yM ?_;refine ew ?_;rw [yM,ai4,f9 C] at hm;exact Fin.bz I C aM (aH.iw e9) ⟨by rw [hm];rfl,dy,rfl,jl⟩
 | false=>
 refine aa.c2 30 C yM ?_;refine c3 ?_;cases qw:(σ (bw arg path)).fU.testBit 1 with
 | true=>
  refine ew ?_;rw [qw,ai4,ao3,f9 C] at hm;exact Fin.bz I C aM (aH.iw e9) ⟨by rw [hm];rfl,dy,rfl,jl⟩
 | false=>
 refine c3 ?_;cases ml:(σ (bw arg path)).fU.testBit 2 with
 | true=>
  refine ew ?_;rw [ml,ai4,ao3,ao3,f9 C] at hm;exact Fin.bz I C aM (aH.iw e9) ⟨by rw [hm];rfl,dy,rfl,jl⟩
 | false=>
 refine c3 ?_;cases ye:(σ (bw arg path)).no.testBit 0 with
 | true=>
  refine ew ?_;rw [ye,ao3,ao3,ao3,f9 C] at hm;exact Fin.bz I C aM (aH.iw e9) ⟨by rw [hm];rfl,dy,rfl,jl⟩
 | false=>
 rw [yM,qw,ml,ye] at hm;simp only [Bool.or_self,ad4,if_false] at hm;refine cG I ?_;intro I;have abN:=lr.bl;refine ad.b0 [0,3,45,46] C I (σ:=Nat×Nat×Nat×List lf) (fun q=>[(47,.int .i64 (q.1:Int)),(7,.int .u64 (q.2.1:Int)),(8,.int .u64 (q.2.2.1:Int))]) (fun q=>mF σ mb q.2.2.2)
  (fun q=>q.1≤(σ (bw arg path)).bl.length∧pj w σ cn arg path (σ (bw arg path)).bl (σ (bw arg path)).fU (σ (bw arg path)).no=pj w σ cn arg path ((σ (bw arg path)).bl.drop q.1) q.2.1 q.2.2.1∧q.2.1<2^64∧q.2.2.1<2^64∧xe n E σ q.2.2.2)
  (fun q=>(σ (bw arg path)).bl.length-q.1) (0,(σ (bw arg path)).fU,(σ (bw arg path)).no,dy) ⟨g7 _,by rw [aj'],lr.fU,lr.no,jl⟩ (ck C) (aH.iw e9) ?_
 rintro ⟨j,m,gS,HA⟩ ⟨aK,aZ,yN,yO,u7⟩ I;simp only at aK aZ yN yO u7 I ⊢;refine b2 ?_;refine ad.cond C (fun ar=>?_) (fun aV=>?_);rotate_left
 ·have aV:j=(σ (bw arg path)).bl.length:=by
   have:¬ (j<(σ (bw arg path)).bl.length):=by simpa [bw] using aV
   omega
  subst aV;rw [List.drop_length,pj] at aZ;rw [aZ] at hm;simp only at hm;refine bB ?_;refine ad.b0 [0,3] C I (σ:=Nat×Nat) (fun q=>[(14,.int .i64 ((3+q.1:Nat):Int)),(7,.int .u64 (q.2:Int)),(8,.int .u64 (gS:Int))]) (fun q=>mF σ mb HA)
   (fun q=>q.1≤w.ps.length∧q.2=(ae7 q.1).foldl (tM w) m∧q.2<2^64) (fun q=>w.ps.length-q.1) (0,m) ⟨g7 _,rfl,yN⟩ (ck C) (aH.all _) ?_
  rintro ⟨c,gN⟩ ⟨aA,HB,eW⟩ I;simp only at aA HB eW I ⊢;have qX:=hw.iV;have df:H1 .i64 (3+((w.ps.map bg).length:Int))=3+(w.ps.length:Int):=by rw [f6,eo ag ag]
  refine b2 ?_;refine ad.cond C (fun cC=>?_) (fun dm=>?_);rotate_left
  ·have dm:c=w.ps.length:=by rw [df] at dm;simp at dm;omega
   subst dm;have rY:re w m=gN:=HB.symm;rw [rY] at hm;refine bB ?_;refine aa.bits ((k2 gN 1:Nat):Int) C C C C C C (C1 eW dW) ?_;refine ht ?_;refine aa.bits ((k2 gN 1 &&& gS:Nat):Int) C C C C C C (uH (Nat.and_lt_two_pow _ (Nat.xor_lt_two_pow dW dW)) yO) ?_;refine eD ?_;exact Fin.bz I C aM (aH.all _) ⟨by rw [hm];simp only [Ba],HA,rfl,u7⟩
  have cC:c<w.ps.length:=by rw [df] at cC;simp at cC;omega
  have kD:=tq w.ps;obtain ⟨u,hu⟩:∃ u,(ey w.ps)[3+c]? = some u:=⟨_,g6 ag⟩;have WJ:(ey w.ps).getD (3+c) 0=u:=by rw [d6,hu];rfl
  have wP:=ya qX u (d5 hu);have cP:=yo gN (3+c) eW ag;have aI:(ae7 (c+1)).foldl (tM w) m=tM w gN c:=by rw [ap0,am6,← HB];rfl
  have iv:tM w gN c=if gN.testBit (3+c) then gN|||u else gN:=by unfold tM;rw [WJ]
  rw [iv] at aI;have aw:=AK (w:=w) (yb hu);have zu:gN|||u<2^64:=ag9 eW wP
  cases M9:gN.testBit (3+c) with
  | false=>
   rw [M9] at cP aI;simp only [ad4,if_false] at aI;refine bZ ?_;exact bn.mk (c+1,gN) I ⟨cC,aI.symm,eW⟩ Mx (aH.all _) (by show w.ps.length-(c+1)<w.ps.length-c;omega)
  | true=>
   rw [M9] at cP aI;simp only [if_true] at aI;refine c3 ?_;refine aa.l0 ai (3+c) C C C C C C C C C C ag ?_;refine aa.Aw ai C C C C C C C (by simpa using aw) ?_;skip;refine aa.bits ((gN|||u:Nat):Int) C C C C C C (wC eW wP) ?_;refine fu ?_;exact bn.mk (c+1,gN|||u) I ⟨cC,aI.symm,zu⟩ Mx (aH.all _) (by show w.ps.length-(c+1)<w.ps.length-c;omega)
 have ar:j<(σ (bw arg path)).bl.length:=by simpa [bw] using ar
 obtain ⟨bt,ay,c'⟩:=bV (f:=bb) ar;have hQ:path.length<2:=by
  rcases am0 path.length 2 with h|h
  ·exact h
  ·rw [cj.deep arg path h] at ar;cases ar
 have abO:=gO.slot _ bt (d5 ay);obtain ⟨k,rfl⟩:∃ k:Nat,bt=(k:Int):=⟨bt.toNat,by omega⟩;have sg:k<w.owner.length:=by omega
 have abP:=hw.own _ (aj6 sg);have qX:=hw.iV;have M':w.owner[k]? = some ((jS w (k:Int):Nat):Int):=by
  unfold jS;rw [g6 sg,ac0,d6,g6 sg];simp only [ae1];congr 1;omega
 have Bb:jS w (k:Int)<64:=by
  unfold jS;rw [ac0,d6,g6 sg];simp only [ae1];omega
 have HC:(w.owner.map bb)[k]? = some (.int .i64 ((jS w (k:Int):Nat):Int)):=by simp [M',bb]
 have WK:=AF m _ yN Bb;have WL:=AF gS _ yO Bb;have abQ:=kK (k:Int) hQ;have WM:=sk hQ (k:Int);have an:=xf w mb n σ HA u7 arg ((path++[(k:Int)]).length:Int) ((path++[(k:Int)]).getD 0 0) ((path++[(k:Int)]).getD 1 0);have jz:(σ (bw arg path)).bl.drop j=(k:Int)::(σ (bw arg path)).bl.drop (j+1):=by
  rw [aq6 ar];rw [g6 ar] at ay;simp only [al8.injEq] at ay;rw [ay]
 rw [jz,pj] at aZ;clear kK sk;generalize jS w (k:Int)=jD at M' Bb HC WK WL aZ;refine SH ?_;intro dJ jz cD;refine bf.runs (is:=[0,1,6,7]) C ?_;refine bf.b9 2 rfl rfl rfl rfl rfl rfl rfl an I (aH.all _) ?_ (fun _ _ ⟨_,_,h,_⟩ _=>by cases h);rintro _ _ ⟨dA,acH,⟨⟩,⟨HD,K4,DI,WN⟩,rfl⟩ I;rw [d7] at I ⊢;refine bf.runs (is:=[3,4]) C ?_;have WO:=WM HD _ ⟨HD,rfl,DI.four,DI.rest,DI.mE,fun x ab=>ab⟩;refine bf.Sn (σ:=List lf) (fun _ => .bool (cn (path++[(k:Int)]))) (fun z=>aT s (mF σ mb z)) (fun z=>Ok s (mF σ mb z)∧xe n HD σ z) (i:=5) (j:=8) ai C C C C C C C C C C C C (bp.get bp.here I) C C C C
  (a7.b9 rfl rfl WO I (aH.iw K4)) ?_ (fun z _ h=>h) ?_ ?_ (fun _ _ ⟨_,_,_,h,_⟩=>by cases h)
 ·rintro y al ⟨aO,rfl,yf,⟨⟩,xk,rfl,va⟩
  rw [d7] at yf ⊢;exact ⟨xk,⟨yf,va⟩,rfl,rfl⟩
 ·rintro z ⟨yP,va⟩ h
  have WQ:=va.td _ WN;obtain ⟨acu,WR⟩:=bp.A1 (o := .own dA) (L:=mF σ mb z) (i5 _ (ad7.2 ⟨_,WQ,rfl⟩));refine bf.eC 5 ai yP C C C C C C C C WR C ?_;exact bf.congr _ (fun t=>Sl _ _ _ C t) h
 rintro xk ⟨yP,va⟩;refine bf.run C (bf.done C ?_);have DJ:xe n E σ xk:=⟨va.four,va.rest,va.mE,fun x ab=>va.td x (DI.td x ab)⟩;have L7:m|||2^jD<2^64:=ag9 yN (ag1 ag Bb)
 have WS:gS|||2^jD<2^64:=ag9 yO (ag1 ag Bb)
 unfold gn e6 pY eO bg at *;cases sf:cn (path++[(k:Int)]) with
 | false=>
  refine dC ?_;cases eY:(σ (bw arg (path++[(k:Int)]))).gB with
  | true=>
   refine aa.ds 65 C eY ?_;refine e5 ?_;rw [sf,eY] at aZ;simp only [ah0,Bool.and_self,if_true] at aZ;rw [aZ] at hm;exact Fin.bz yP C aM (aH.all _) ⟨by rw [hm];rfl,xk,rfl,DJ⟩
  | false=>
   refine aa.c2 65 C eY ?_;refine aa.c2 12 C eY ?_;refine bZ ?_;rw [sf,eY] at aZ;simp only [f5,ad4,if_false] at aZ;exact bn.mk (j+1,m,gS|||2^jD,xk) yP ⟨ar,aZ,yN,WS,DJ⟩ b' (aH.all _) G7
 | true=>
  refine dC ?_;cases eY:(σ (bw arg (path++[(k:Int)]))).gB with
  | true=>
   refine aa.ds 65 C eY ?_;refine aa.ds 12 C eY ?_;refine bZ ?_;rw [sf,eY] at aZ;simp only [ah7,ai2,ad4,if_false,if_true] at aZ;exact bn.mk (j+1,m|||2^jD,gS,xk) yP ⟨ar,aZ,L7,yO,DJ⟩ b' (aH.all _) G7
  | false=>
   refine aa.c2 65 C eY ?_;refine aa.c2 12 C eY ?_;refine bB ?_;rw [sf,eY] at aZ;simp only [f5,ad4,if_false,if_true] at aZ;exact bn.mk (j+1,m,gS,xk) yP ⟨ar,aZ,yN,yO,DJ⟩ b' (aH.all _) G7
def sl (w:bx) (σ:ec) (arg:Int):Nat→List Int→Bool
 | 0,_=>false
 | k+1,p=>xi σ arg p||(xg σ arg p||(xj w σ (sl w σ arg k) arg p).2)
theorem Na (w:bx) (hw:fT w) (mb n:Nat) (az:n<bu) (σ:ec) (cj:u9 n σ) (gO:DH w σ) (arg:Int):∀ (k:Nat) (path:List Int),path.length≤2→3≤k+path.length→M8 w mb n σ arg (sl w σ arg k) path
  | 0,path,aE,an=>by omega
  | k+1,path,aE,an=>by
    intro E K bh;have U:=fun K bh=>WG (E:=E) w mb n az σ cj arg path aE K bh
    have ae:=fun K bh=>WE (E:=E) w mb n az σ cj arg path aE K bh
    have bd:=fun K bh=>WI (E:=E) w hw mb n az σ cj gO arg path aE (sl w σ arg k) (fun aB bt=>Na w hw mb n az σ cj gO arg k (path++[bt]) (by rw [f8];simp;omega) (by rw [f8];simp;omega)) K bh
    have hm:sl w σ arg (k+1) path=(xi σ arg path||(xg σ arg path||(xj w σ (sl w σ arg k) arg path).2)):=rfl;refine bE.bj ai Tryz.func270 C C fun s I=>?_
    unfold h6 at *;unfold iI kr at *;refine dL ?_;refine aa.b9 rfl rfl rfl rfl rfl (U K bh) I (aH.all _) ?_ (fun _ _ ⟨h,_⟩ _=>by cases h);rintro _ iK ⟨⟨⟩,ov⟩ I;rw [d7] at I ⊢;refine ht ?_;cases aQ:xi σ arg path with
    | true=>
      refine ew ?_;rw [aQ] at hm;exact Fin.bz I C aM (aH.all _) ⟨by rw [hm];rfl,ov⟩
    | false=>
      refine dS ?_;refine aa.b9 rfl rfl rfl rfl rfl (ae iK ov) I (aH.all _) ?_ (fun _ _ ⟨h,_⟩ _=>by cases h);rintro _ HE ⟨⟨⟩,Bc⟩ I;rw [d7] at I ⊢;refine fI ?_;cases lJ:xg σ arg path with
      | true=>
        refine ew ?_;rw [aQ,lJ] at hm;exact Fin.bz I C aM (aH.all _) ⟨by rw [hm];rfl,Bc⟩
      | false=>
        refine bB ?_;refine aa.b9 rfl rfl rfl rfl rfl (bd HE Bc) I (aH.all _) ?_ (fun _ _ ⟨h,_⟩ _=>by cases h);rintro _ acK ⟨⟨⟩,WT⟩ I;rw [d7] at I ⊢;refine ew ?_;rw [aQ,lJ] at hm;exact Fin.bz I C aM (aH.all _) ⟨by rw [hm];rfl,WT⟩
def nb (w:bx) (σ:ec):Bool:=(ae7 3).all fun a=>sl w σ ((a:Nat):Int) 3 []
def HF:af := .iface 291 (.agg [])
theorem WU (w:bx) (hw:fT w) (mb n:Nat) (az:n<bu) (σ:ec) (cj:u9 n σ) (gO:DH w σ) {E:List lf} (K:a') (bh:l6 n E σ mb K) :
  bE d0 249 [h6 w mb] K (fun o aO=>(o=if nb w σ then .ret (.cu []) else .panic HF)∧l6 n E σ mb aO):=by
 have U:=fun (a:Nat) K bh=>Na w hw mb n az σ cj gO ((a:Nat):Int) 3 [] ba ba E K bh
 refine bE.bj ai Tryz.func249 C C fun s I=>?_
 unfold h6 at *;unfold iI kr at *;refine gg ?_;refine ad.b0 [0] C I (σ:=Nat×a') (fun q=>[(3,.int .i64 (q.1:Int))]) (fun q=>q.2) (fun q=>q.1≤3∧((ae7 q.1).all fun a=>sl w σ ((a:Nat):Int) 3 [])=true∧l6 n E σ mb q.2) (fun q=>3-q.1) (0,K) ⟨by omega,rfl,bh⟩ (ck C) (aH.all _) ?_;rintro ⟨j,iK⟩ ⟨aK,a8,ov⟩ I;simp only at aK a8 ov I ⊢;refine b2 ?_;refine ad.cond C (fun ar=>?_) (fun aV=>?_);rotate_left
 ·have aV:j=3:=by simp at aV;omega
  subst aV;have hm:nb w σ=true:=a8;refine dB ?_;exact Fin.bz I C aM (aH.all _) ⟨by rw [hm];rfl,ov⟩
 have ar:j<3:=by simp at ar;omega
 refine bB ?_;refine aa.b9 rfl rfl rfl rfl rfl (U j iK ov) I (aH.all _) ?_ (fun _ _ ⟨h,_⟩ _=>by cases h);rintro _ HE ⟨⟨⟩,Bc⟩ I;rw [d7] at I ⊢;refine fI ?_;cases aA:sl w σ ((j:Nat):Int) 3 [] with
 | false=>
  refine bB ?_;refine aa.panic C C C C ?_;have hm:nb w σ=false:=by
   unfold nb;rw [at5];exact ⟨j,by simpa using ar,by rw [aA];simp⟩
  exact Fin.fc I aM (aH.all _) ⟨by rw [hm];rfl,Bc⟩
 | true=>
  refine jN ?_;exact bn.mk (j+1,HE) I ⟨ar,by rw [ap0,List.all_append,a8];simp [aA],Bc⟩ b' (aH.all _) (by show 3-(j+1)<3-j;omega)
end Go.Proofs.YtnafpeohfbglmaaGreat
namespace Go.dv
open Go.Proofs.YtnafpeohfbglmaaGreat
mutual
def iy:aj→List aj
 | .mk o a p c n ks=>if (aj.mk o a p c n ks).cU then [.mk o a p c n ks] else j' ks
def j':List aj→List aj
 | []=>[]
 | x::r=>iy x++j' r
end
theorem DK (f:aj):iy f=if f.cU then [f] else j' f.kids:=by cases f;rw [iy];rfl
def fy (f g:aj):Bool:=decide (f.op=g.op)&&(decide (f.arg=g.arg)&&(decide (f.cls=g.cls)&&(decide (f.n=g.n)&&f.path==g.path)))
def hA (l:List aj) (f:aj):List aj:=if l.any (fun x=>fy x f) then l else l++[f]
def ih (gen:Int) (l:List aj) (m:hJ):List aj:=if m.gen=gen then (iy m.fact).foldl hA l else l
def dc (p:bP) (gen:Int):List aj:=p.methods.foldl (ih gen) []
def mG (p:bP) (gen:Int):Bool:=decide (gen≥0)&&decide (gen<(p.dw.length:Int))
def hp (p:bP) (gen:Int):Int:=if fG p&&mG p gen then (if (dc p gen).length≤7 then 0 else 3) else 2
def sm:Nat→List aj→Nat→List cg
 | _,[],_=>[]
 | i,f::r,v=>(f,!v.testBit i)::sm (i+1) r v
def sn (l:List aj) (v:Nat):List cg:=sm 0 l v
def nc (w:bx) (l:List aj) (v:Nat):Bool:=nb w (ev (sn l v))
def ka (w:bx) (l:List aj):List Nat:=(ae7 (2^l.length)).filter (nc w l)
mutual
def pk (l:List aj) (v:Nat):aj→Bool
 | .mk o a p c n ks=>
  if o=1 then true
  else if o=5 then !(ox l v 0 ks)
  else if o=6 then ox l v 0 ks&&ox l v 1 ks
  else if o=7 then ox l v 0 ks||ox l v 1 ks
  else match l.findIdx? (fun x=>fy x (.mk o a p c n ks)) with
   | some i=>v.testBit i
   | none=>false
def ox (l:List aj) (v:Nat):Nat→List aj→Bool
 | _,[]=>false
 | 0,x::_=>pk l v x
 | n+1,_::r=>ox l v n r
end
theorem xl (l:List aj) (v:Nat):∀ (n:Nat) (ks:List aj) (x:aj),ks[n]? = some x→ox l v n ks=pk l v x
 | 0,y::r,x,h=>by rw [ox];simp at h;rw [h]
 | n+1,y::r,x,h=>by rw [ox];exact xl l v n r x fZ
theorem Nb (l:List aj) (v:Nat) (f:aj):pk l v f =
  if f.op=1 then true
  else if f.op=5 then !(ox l v 0 f.kids)
  else if f.op=6 then ox l v 0 f.kids&&ox l v 1 f.kids
  else if f.op=7 then ox l v 0 f.kids||ox l v 1 f.kids
  else match l.findIdx? (fun x=>fy x f) with
   | some i=>v.testBit i
   | none=>false:=by cases f;rw [pk];rfl
def rf (gen:Int) (l:List aj) (v:Nat):Nat→List hJ→List Int
 | _,[]=>[]
 | i,m::r=>if m.gen=gen&&pk l v m.fact then (i:Int)::rf gen l v (i+1) r else rf gen l v (i+1) r
def dM (p:bP) (gen:Int) (l:List aj) (v:Nat):List Int:=rf gen l v 0 p.methods
inductive cv where
 | leaf (ms:List Int)
 | test (atom:Nat) (no yes:cv)
 deriving Inhabited
namespace cv
def lz:cv→Nat
 | .leaf _=>0
 | .test _ a b=>1+max a.lz b.lz
def leaves:cv→Nat
 | .leaf _=>1
 | .test _ a b=>a.leaves+b.leaves
def before (a b:cv):Bool:=decide (a.lz<b.lz)||(decide (a.lz=b.lz)&&decide (a.leaves<b.leaves))
def laid:List b7→cv→List b7
 | l,.leaf ms=>l++[⟨-1,0,0,ms⟩]
 | l,.test i a b=>
  let yQ:=laid (l++[⟨i,0,0,[]⟩]) a
  let fW:=laid yQ b
  fW.set l.length ⟨i,(l.length:Int)+1,(yQ.length:Int),[]⟩
end cv
def rh (have':Nat→List Int):List Nat→Bool
 | []=>true
 | v::r=>r.all fun u=>have' u==have' v
def firstM (have':Nat→List Int):List Nat→List Int
 | []=>[]
 | v::_=>have' v
def xm (out:Option cv) (t:cv):Option cv:=match out with
 | none=>some t
 | some o=>if t.before o then some t else some o
def gx (i:Nat) (vs:List Nat):List Nat:=vs.filter fun v=>v.testBit i
def gy (i:Nat) (vs:List Nat):List Nat:=vs.filter fun v => !v.testBit i
def l8 (g:List Nat→cv) (vs:List Nat) (out:Option cv) (i:Nat):Option cv:=
 if (gx i vs).isEmpty||(gy i vs).isEmpty then out else xm out (.test i (g (gy i vs)) (g (gx i vs)))
def nd (A:Nat) (have':Nat→List Int):Nat→List Nat→cv
 | 0,vs => .leaf (firstM have' vs)
 | f+1,vs=>if rh have' vs then .leaf (firstM have' vs) else ((ae7 A).foldl (l8 (nd A have' f) vs) none).getD (.leaf [])
def HG (p:bP) (gen:Int):cv:=
 let l:=dc p gen
 let vs:=ka (b6 p) l
 nd l.length (dM p gen l) vs.length vs
def vb (g:List b7) (v:Nat):Nat→Int→Nat→Int×Nat
 | 0,fh,n=>(fh,n)
 | f+1,fh,n=>
  if (g.getD fh.toNat default).atom≥0 then vb g v f (if v.testBit (g.getD fh.toNat default).atom.toNat then (g.getD fh.toNat default).yes else (g.getD fh.toNat default).no) (n+1)
  else (fh,n)
def leads (g:List b7) (v:Nat):Int×Nat:=vb g v g.length 0 0
def so (p:bP) (gen:Int) (g:List b7):Bool:=
 let l:=dc p gen
 g.all (fun x=>decide (x.atom<(l.length:Int)))&&(ka (b6 p) l).all fun v=>(g.getD (leads g v).1.toNat default).ms==dM p gen l v
end Go.dv
namespace Go.Proofs.YtnafpeohfbglmaaGreat
open Go.cW Go.dv
theorem Bd (v c:Nat):(((v >>> c &&& 1:Nat):Int)==1)=v.testBit c:=by
 rw [show (((v >>> c &&& 1:Nat):Int)==1)=decide (((v >>> c &&& 1:Nat):Int)=1) from rfl,Nat.and_one_is_mod,Nat.testBit_eq_decide_div_mod_eq,Nat.shiftRight_eq_div_pow];apply decide_eq_decide.2;omega
theorem Nc (g:List b7) (aw:hI g=true) (v:Nat) (av:v<2^63):aR d0 75 [fM g,.int .i64 (v:Int)] (.cu [.int .i64 (leads g v).1,.int .i64 ((leads g v).2:Int)]):=by
 have aq:=bC;refine aR.bj ai Tryz.func75 C C fun s I=>?_
 obtain ⟨lN,eW⟩:=wO aw;unfold fM;refine gg ?_;refine ad.b0 [0,1] C I (σ:=Nat×Nat×Nat) (fun q=>[(4,.int .i64 (q.1:Int)),(5,.int .i64 (q.2.1:Int))]) (fun _=>[]) (fun q=>q.1<g.length∧leads g v=vb g v q.2.2 (q.1:Int) q.2.1∧g.length≤q.1+q.2.2∧q.2.1≤q.1) (fun q=>g.length-q.1) (0,0,g.length) ⟨lN,rfl,by simp,i0 _⟩ (ck C) aY ?_;rintro ⟨j,n,f⟩ ⟨aK,ak,aZ,az⟩ I
 try simp only at aK ak aZ az I ⊢
 obtain ⟨x,ab,bL⟩:=bV (f:=eP) aK;have aW:=uS aw ab;obtain ⟨f,rfl⟩:∃ k,f=k+1:=⟨f-1,by omega⟩;rw [vb,ac0,show g.getD j default=x by rw [d6,ab];rfl] at ak;unfold eP gY bg at bL;refine dC ?_;refine ad.cond C (fun a8=>?_) (fun a8=>?_);rotate_left
 ·rw [d9 w3] at ak
  rw [ak];refine dB ?_;exact bm I
 have a8:x.atom≥0:=by simpa using a8
 rw [f9 a8] at ak;have en:=(kn ag).1 aW;obtain ⟨a,Be⟩:∃ a:Nat,x.atom=a:=⟨x.atom.toNat,by omega⟩;rw [Be,ac0] at ak;rw [Be] at bL;refine bB ?_;refine aa.shr _ C C C C C C ag (tn ag) ?_;refine aa.bits _ C C C C C C (Ae (n:=1) (Nat.lt_of_le_of_lt (Nat.shiftRight_le v a) av) ag) ?_;refine fI ?_;have aq:=Bd v a;refine ad.cond C (fun aA=>?_) (fun aA=>?_)
 ·rw [aA] at aq
  rw [← aq,f9 C] at ak;obtain ⟨y,ay⟩:∃ y:Nat,x.yes=y:=⟨x.yes.toNat,by omega⟩;rw [ay] at ak bL;refine bB ?_;exact bn.mk (y,n+1,f) I ⟨by show y<g.length;omega,by rw [ak],by show g.length≤y+f;omega,by show n+1≤y;omega⟩ b' aY Dx
 ·rw [aA] at aq
  rw [← aq,d9 ba] at ak;obtain ⟨y,ay⟩:∃ y:Nat,x.no=y:=⟨x.no.toNat,by omega⟩;rw [ay] at ak bL;refine bB ?_;exact bn.mk (y,n+1,f) I ⟨by show y<g.length;omega,by rw [ak],by show g.length≤y+f;omega,by show n+1≤y;omega⟩ b' aY Dx
theorem DL {g:List b7} (aw:hI g=true) (v:Nat):∃ j x,(leads g v).1=(j:Nat)∧g[j]? = some x∧¬ x.atom≥0:=by
 obtain ⟨lN,eW⟩:=wO aw;suffices h:∀ (f j n:Nat),j<g.length→g.length≤j+f→∃ k x,(vb g v f (j:Int) n).1=(k:Nat)∧g[k]? = some x∧¬ x.atom≥0 from h g.length 0 0 lN ba
 intro f
 induction f with
 | zero=>intro j n U ae;omega
 | succ f a6=>
  intro j n U ae;obtain ⟨x,ab,-⟩:=bV (f:=eP) U;have aW:=uS aw ab;rw [vb,ac0,show g.getD j default=x by rw [d6,ab];rfl];by_cases a8:x.atom≥0
  ·rw [f9 a8]
   have en:=(kn ag).1 aW;split
   ·obtain ⟨y,ay⟩:∃ y:Nat,x.yes=y:=⟨x.yes.toNat,by omega⟩
    rw [ay];exact a6 y (n+1) ag ag
   ·obtain ⟨y,ay⟩:∃ y:Nat,x.no=y:=⟨x.no.toNat,by omega⟩
    rw [ay];exact a6 y (n+1) ag ag
  ·rw [d9 a8];exact ⟨j,x,rfl,ab,a8⟩
theorem WV (fv:af) (Go:List aj→a'→Prop) (fD:a'→Prop) (fJ:af→a'→Prop) (en:∀ x rem K,Go (x::rem) K→dt d0 fv [x.bJ] K (AT Go fD fJ rem)) :
  ∀ (n:Nat) (f:aj),f.size≤n→n<bu→∀ (rest:List aj) (K:a'),Go (iy f++rest) K→bE d0 149 [f.bJ,fv] K (AT Go fD fJ rest):=by
 have aq:=bC;intro n
 induction n with
 | zero=>intro x h;have:=x.size_eq;omega
 | succ n a6=>
  intro f az iP rest K dE;have iv:=f.size_eq;have lb:=aj.pP f.kids;rw [DK] at dE;refine bE.bj ai Tryz.func149 C C fun s I=>?_
  cases aB:f.cU with
  | true=>
   rw [aB,f9 C] at dE;have an:=en f rest K dE;rw [aj.bW] at an ⊢;unfold aj.cells at an ⊢;have b5:f.op=2∨f.op=3∨f.op=4:=by unfold aj.cU at aB;simp at aB;omega
   rcases b5 with h|h|h
   all_goals
    rw [h] at an ⊢;refine bB ?_;refine aa.gM C C C C C C an I (aH.all _) ?_ ?_
    ·rintro x aO (⟨⟨⟩,aw⟩|⟨⟨⟩,ax⟩|⟨_,⟨⟩,_⟩) I
     all_goals rw [d7] at I ⊢
     ·refine ew ?_
      exact Fin.bz I C aM (aH.all _) (.inl ⟨rfl,aw⟩)
     ·refine ew ?_
      exact Fin.bz I C aM (aH.all _) (.inr (.inl ⟨rfl,ax⟩))
    ·rintro x aO (⟨h,_⟩|⟨h,_⟩|⟨v,⟨⟩,aE⟩) I
     ·cases h
     ·cases h
     rw [d7] at I ⊢;exact Fin.fc I aM (aH.all _) (.inr (.inr ⟨_,rfl,aE⟩))
  | false=>
   rw [aB,d9 ba] at dE;have b5:f.op≠2∧f.op≠3∧f.op≠4:=by unfold aj.cU at aB;simp at aB;omega
   rw [aj.bW];unfold aj.cells;refine dL ?_;refine aa.c2 10 C cE ?_;refine dS ?_;refine aa.c2 15 C cE ?_;refine fI ?_;refine ad.cond C (fun h=>by simp at h;omega) (fun _=>?_);refine jh ?_;refine ad.b0 [1,24,25] C I (σ:=Nat×a') (fun q=>[(26,.int .i64 (q.1:Int))]) (fun q=>q.2) (fun q=>q.1≤f.kids.length∧Go (j' (f.kids.drop q.1)++rest) q.2) (fun q=>f.kids.length-q.1) (0,K) ⟨g7 _,dE⟩ (ck C) (aH.all _) ?_;rintro ⟨j,iK⟩ ⟨aK,dE⟩ I
   try simp only at aK dE I ⊢
   refine b2 ?_;refine ad.cond C (fun ar=>?_) (fun aV=>?_);rotate_left
   ·have aV:j=f.kids.length:=by simp at aV;omega
    rw [ef ag,j',d8] at dE;refine dB ?_;exact Fin.bz I C aM (aH.all _) (.inl ⟨rfl,dE⟩)
   have ar:j<f.kids.length:=by simpa using ar
   obtain ⟨x,ab,bL⟩:=bV (f:=aj.bJ) ar;have cY:=aj.hx (d5 ab);rw [drop_cons ab,j',ae'] at dE;have i1:=a6 x ag ag _ iK dE;rw [aj.bW] at i1 bL;unfold aj.cells at i1 bL;refine ea ?_;refine aa.b9 C C C C C i1 I (aH.all _) ?_ ?_
   ·rintro y aO (⟨⟨⟩,aw⟩|⟨⟨⟩,ax⟩|⟨_,⟨⟩,_⟩) I
    all_goals rw [d7] at I ⊢
    ·refine bB ?_
     exact bn.mk (j+1,aO) I ⟨ar,aw⟩ b' (aH.all _) yB
    ·refine e5 ?_
     exact Fin.bz I C aM (aH.all _) (.inr (.inl ⟨rfl,ax⟩))
   ·rintro y aO (⟨h,_⟩|⟨h,_⟩|⟨v,⟨⟩,aE⟩) I
    ·cases h
    ·cases h
    rw [d7] at I ⊢;exact Fin.fc I aM (aH.all _) (.inr (.inr ⟨_,rfl,aE⟩))
theorem WW (f:aj) (aZ:f.size<bu):x9 d0 148 [] [.bA f.cells 0] [] aj.bJ (iy f):=by
 intro l Go fD fJ oY K bh;have hw:=WV (lR l) Go fD fJ (fun x rem K aw=>oY x rem K aw) f.size f (i0 _) aZ [] K (by rw [d7];exact bh);rw [aj.bW] at hw;refine bE.bj ai Tryz.func148 C C fun s I=>?_
 rw [d8] at I ⊢;unfold aj.cells at *;refine jM ?_;refine aa.b9 C C C C C hw I (aH.all _) ?_ ?_
 ·rintro x aO (⟨⟨⟩,h⟩|⟨⟨⟩,h⟩|⟨_,⟨⟩,_⟩) I
  all_goals rw [d7] at I ⊢
  ·refine fI ?_
   exact Fin.bz I C aM (aH.all _) (.inl ⟨rfl,.inl h⟩)
  ·refine fI ?_
   exact Fin.bz I C aM (aH.all _) (.inl ⟨rfl,.inr h⟩)
 ·rintro x aO (⟨h,_⟩|⟨h,_⟩|⟨v,⟨⟩,h⟩) I
  ·cases h
  ·cases h
  rw [d7] at I ⊢;exact Fin.fc I aM (aH.all _) (.inr ⟨_,rfl,h⟩)
theorem WX (f:aj):aR d0 101 [f.bJ] (.func 148 [] [.bA f.cells 0]):=by
 have aq:=bC;refine aR.bj ai Tryz.func101 C C fun s I=>?_
 rw [aj.bW];unfold aj.cells;refine gH ?_;exact bm I
end Go.Proofs.YtnafpeohfbglmaaGreat
namespace Go.cW
section
variable {P:Program} {Γ:cz} {N:Nat} {ops:Array Oper} {Q:b8→Env→ao→Prop} {env:Env} {s:ao} {l:List Oper} {o:Oper} {d:Nat} {L R:a'}
def HH (s:ao) (R:a') (e:TypeId) (sz n:Nat) (xs:List af) (r:af) (al:ao):Prop:=
 ∃ aX cf cs',r=eu aX n cf∧al=aT s ((.own aX,.box e cs')::R)∧Ok s ((.own aX,.box e cs')::R)∧cs'.length=cf*sz∧n≤cf∧cs'.take (n*sz)=xs
theorem Nd (z:Array Value) (k:Nat):(Builtin.zeroCells z k).toList.length=k*z.size:=by
 rw [ac7];simp [Builtin.zeroCells]
theorem Nf (aP:bQ P Γ) {w:World} {p:bT} {S:ao} (cd:dq w p S) {t bH e ty:TypeId} {it cw aG:bN} {bU sz:Nat} {olds:List Value} {xs ys:List af} {dk:bM} {base:Option Addr} {n cap:Nat} {qI:Value}
  (aN:Γ.get? t=some it) (bs:it.bG = .aC e) (cZ:Γ.get? bH=some cw) (dr:∀ k,cw.bG ≠ .int k) (bI:Γ.get? e=some aG) (U:aG.size=sz) (dV:ac' aG.zero.cells.size aG.size=true)
  (aF:bF w p olds xs) (az:n*sz=xs.length) (pA:(Builtin.firstCells sz n (.slice base n cap)).run P w.drew = .ok olds.toArray w.drew) (ay:Rel w p qI (.aC bU [.agg ys] dk)) (c8:bU=sz) (h8:ys.length=sz)
  (ar:cap<n+1) (aq:(n+1)*aG.bytes≤140737488355328) (er:n+1≤9223372036854775807) :
  ∃ aX cf cs' w',(Builtin.append_ #[t,bH] ty #[.slice base n cap,qI]).run P w = .ok (.slice (some ⟨aX,0,none⟩) (n+1) cf) w'∧S aX=none∧de w p w' p∧Kept S (S.set aX (.box e cs')) w p w' p∧dq w' p (S.set aX (.box e cs')) ∧
   cs'.length=cf*sz∧n+1≤cf∧cs'.take ((n+1)*sz)=xs++ys:=by
 obtain ⟨info,d,g1,g2,g3,-⟩:=aP.parts aN;obtain ⟨mK,c6,ek,dj,dT,-⟩:=aP.parts cZ;obtain ⟨jU,kA,cA,db,fe,eH,jV,js⟩:=aP.parts bI;have ax:d = .slice e:=by rw [bs] at g3;cases d<;>simp [ez] at g3;rw [g3]
 subst ax;have cm:∀ k,c6 ≠ .int k:=fun k e'=>by subst e';exact dr k dT.symm
 obtain ⟨us,il,pB,jW,ki,sY,sZ,s0⟩:=qu ay (.inr c8);subst c8;have tN:bF w p (flat us) ys:=by
  cases il with
  | cons u _ vN _ hu wz=>
  cases wz;cases hu with
  | agg c _ aA=>simpa [flat,Value.cells] using aA
 have mQ:=tN.length;have fB:=growslice_fits (need:=n+1) (old:=cap) (bytes:=aG.bytes) ar aq;have cN:=zC (ty:=ty) w g2 dj cm cA js (base:=base) (sLen:=n) (sCap:=cap) (m:=1) (olds:=olds) (news:=flat us) (jW P)
  (by rw [eH,U];exact pA) (by rw [eH,U];exact ki P w.drew (fun _ _ _=>rfl)) ar ag (by rw [jV];exact fB)
 have ns:n+1≤grownCap w (n+1) cap e:=by simp [grownCap,Question.cut]
 have gh:olds.length=n*bU:=by rw [aF.length,az]
 have oM:=ac1 dV;generalize sX:(Builtin.zeroCells aG.zero.cells (grownCap w (n+1) cap e-(n+1))).toList=a1 at cN;have nt:a1.length=(grownCap w (n+1) cap e-(n+1))*bU:=by
  rw [← sX,Nd,oM,U]
 generalize grownCap w (n+1) cap e=G at cN ns nt;have wA:=xP cd
 obtain ⟨au,hle,aD,k0⟩:=rD wA (.cells (olds++flat us++a1).toArray e (0,0)) (.box e (xs++ys++a1.map fun _ => .any)) (fun w' iO av ft=>⟨_,iO,by
  refine bF.append (bF.append (ft _ _ (show bF w.drew p olds xs from aF.mono kX)) (ft _ _ (tN.mono kX))) (bF.z7 a1),fun o aE=>absurd (cd.lt _ _ aE) (by show ¬ w.heap.size<w.heap.size;omega)⟩)
 rw [show w.drew.heap.size=w.heap.size from rfl] at au aD k0;have hm:(n+1)*bU=n*bU+bU:=at7 n bU;refine ⟨w.heap.size,G,xs++ys++a1.map (fun _=>af.any),_,cN,au,kX.trans hle,(vD (w:=w) (p:=p)).trans (kX (w:=w) (p:=p)).size aD,k0,?_,ns,?_⟩
 ·simp only [f8,f6,nt]
  rw [← az,h8,← hm,← Nat.add_mul];congr 1;omega
 ·rw [ag4 cE,af0 cE]
theorem a7.sq (aP:bQ P Γ) (I:Ok s L) {t bH e:TypeId} {x y:Operand} {it cw aG:bN} {dZ bU sz:Nat} {ys:List af} {dk:bM}
    (ah:o.op = .call { callee := .builtin .append,args := #[x,y],argTypes := #[t,bH] }) (aN:Γ.get? t=some it) (bs:it.bG = .aC e) (cZ:Γ.get? bH=some cw) (dr:∀ k,cw.bG ≠ .int k)
    (bI:Γ.get? e=some aG) (U:aG.size=sz) (dV:ac' aG.zero.cells.size aG.size=true) (ab:aL env x=some (.aC dZ [] .nil)) (ay:aL env y=some (.aC bU [.agg ys] dk)) (c8:bU=sz) (h8:ys.length=sz) (aq:1*aG.bytes≤140737488355328)
    {X:af→ao→Prop}:a7 P N o env (aT s L) (fun r al=>HH s L e sz 1 ys r al) X:=by
  refine a7.ky jf fun ro B a w p aI=>?_
  have gl:=aI.aL ab;have fl:=aI.aL ay;have eM:=fun val w'=>uF (P:=P) (a:=a) (val:=val) (w:=w) (w':=w') ah
  generalize eA:a.eval x=dX at gl eM;generalize ff:a.eval y=ga at fl eM;have tk:dX = .slice none 0 0:=by
    cases gl with
    | hY=>rfl
    | iA a _ _ h=>rcases h with h|h<;>cases h
    | aC g off n cap _ vs _ _ az=>exact absurd C az
  subst tk
  obtain ⟨aX,cf,cs',w',fs,gD,hs,jc,mh,mi,mX,mY⟩:=Nf (ty:=o.type) aP aI.wf (base:=none) (n:=0) (cap:=0) (olds:=[]) (xs:=[]) aN bs cZ dr bI U dV .nil ba (by
    have:=run_firstCells_none (P:=P) w.drew sz 0 0 0
    simpa using this) fl c8 h8 ag (by simpa using aq) ag
  rw [ae4] at fs mX mY;exact ⟨_,w',_,p,_,eM _ _ fs,hs,jc,mh,⟨aX,cf,cs',rfl,rfl,⟨gD,I⟩,mi,mX,by simpa using mY⟩,.hB _⟩
theorem a7.sr (aP:bQ P Γ) (I:Ok s L) {t bH e:TypeId} {x y:Operand} {it cw aG:bN} {b n cap bU sz:Nat} {cs ys:List af} {dk:bM}
    (ah:o.op = .call { callee := .builtin .append,args := #[x,y],argTypes := #[t,bH] }) (aN:Γ.get? t=some it) (bs:it.bG = .aC e) (cZ:Γ.get? bH=some cw) (dr:∀ k,cw.bG ≠ .int k)
    (bI:Γ.get? e=some aG) (U:aG.size=sz) (dV:ac' aG.zero.cells.size aG.size=true) (ab:aL env x=some (eu b n cap)) (au:bp L (.own b) (.box e cs) R) (ct:cs.length=cap*sz) (az:n≤cap)
    (ay:aL env y=some (.aC bU [.agg ys] dk)) (c8:bU=sz) (h8:ys.length=sz) (dP:ys.all fa=true) (aq:(n+1)*aG.bytes≤140737488355328) (er:n+1≤9223372036854775807)
    {X:af→ao→Prop}:a7 P N o env (aT s L) (fun r al=>HH s R e sz (n+1) (cs.take (n*sz)++ys) r al) X:=by
  obtain ⟨cb,b1,eV⟩:=au.perm I;refine a7.ky jf fun ro B a w p aI=>?_
  have gl:=aI.aL ab;have fl:=aI.aL ay;have eM:=fun val w'=>uF (P:=P) (a:=a) (val:=val) (w:=w) (w':=w') ah
  generalize eA:a.eval x=dX at gl eM;generalize ff:a.eval y=ga at fl eM;cases gl;obtain ⟨vs,c7,dh,e3⟩:=aI.wf.obj _ _ (au.get I);have ft:vs.toList.length=cap*sz:=by rw [dh.length,ct]
  have tv:n*sz≤cap*sz:=ak3 _ az;have hH:=dh.take (n*sz);have pD:∀ w':World,(∀ j,w'.cell? ⟨b,j,none⟩=w.cell? ⟨b,j,none⟩)→(Builtin.firstCells sz n (.slice (some ⟨b,0,none⟩) n cap)).run P w' = .ok (vs.toList.take (n*sz)).toArray w':=by
    intro w' iO;refine run_firstCells_some (P:=P) w' sz n ⟨b,0,none⟩ n cap (vs.toList.take (n*sz)) (by rw [ac8,ft];omega) (fun j u hu=>?_);rw [lo,ae4,iO,jJ c7];rw [af'] at hu;split at hu
    · simpa using hu
    · cases hu
  by_cases ar:cap<n+1
  · obtain ⟨aX,cf,cs',w',fs,gD,hs,jc,mh,mi,mX,mY⟩:=Nf (ty:=o.type) aP aI.wf (base:=some ⟨b,0,none⟩) (n:=n) (cap:=cap) (olds:=vs.toList.take (n*sz)) (xs:=cs.take (n*sz)) aN bs cZ dr bI U dV hH xI
      (pD w.drew fun _=>rfl) fl c8 h8 ar aq er
    have hN:ao.Sub ((aT s R).set aX (.box e cs')) ((aT s L).set aX (.box e cs')):=by
      refine CP (k := .own aX) ?_;rw [cb];exact x5 (k := .own b) (ao.oN _) b1
    have aw:aT s R aX=none:=by
      have h:=gD;rw [cb] at h;exact (ao.uk h).2
    exact ⟨_,w',_,p,_,eM _ _ fs,hs,jc.sub hN,mh.sub hN,⟨aX,cf,cs',rfl,rfl,⟨aw,eV⟩,mi,mX,mY⟩,.hB _⟩
  · obtain ⟨info,d,g1,g2,g3,-⟩:=aP.parts aN
    obtain ⟨mK,c6,ek,dj,dT,-⟩:=aP.parts cZ;obtain ⟨jU,kA,cA,db,fe,eH,jV,js⟩:=aP.parts bI;have ax:d = .slice e:=by rw [bs] at g3;cases d<;>simp [ez] at g3;rw [g3]
    subst ax;have cm:∀ k,c6 ≠ .int k:=fun k e'=>by subst e';exact dr k dT.symm
    subst c8;obtain ⟨us,il,pB,jW,ki,sY,sZ,s0⟩:=qu (sz':=bU) fl (.inr rfl);have tN:bF w p (flat us) ys:=by
      cases il with
      | cons u _ vN _ hu wz=>
      cases wz;cases hu with
      | agg c _ aA=>simpa [flat,Value.cells] using aA
    have mQ:=tN.length;have j3:∀ x∈flat us,x.oneCell'=true:=qs tN dP;have eL:vs.size=cap*bU:=by rw [← ac7];exact ft
    have hm:(n+1)*bU=n*bU+bU:=at7 n bU;have abR:(n+1)*bU≤cap*bU:=ak3 _ ag;have cN:=Cn (ty:=o.type) (P:=P) w g2 dj cm cA b n cap vs c7 (xv:=ga) (m:=1) (news:=flat us) (jW P) (by rw [eH,U];exact ki P w (fun _ _ _=>rfl)) j3 ag (by rw [eH,U,eL];omega);rw [eH,U] at cN;have hh:bF w p (vs.toList.take (n*bU)++flat us++vs.toList.drop (n*bU+(flat us).length)) (cs.take (n*bU)++ys++cs.drop (n*bU+(flat us).length)):=bF.append (bF.append hH tN) (dh.drop _);have cj:(aT s L) b=some (.box e cs):=au.get I
    obtain ⟨df,kl,iG⟩:=vM aI.wf cj (vs':=(vs.toList.take (n*bU)++flat us++vs.toList.drop (n*bU+(flat us).length)).toArray) (cs':=cs.take (n*bU)++ys++cs.drop (n*bU+(flat us).length)) (fun z' br=>by
      rw [c7] at br;cases br
      simp only [List.size_toArray,f8,ac8,ag2,ft]
      rw [eL];omega) (by simpa using hh) _ C
    obtain ⟨f1,f2⟩:=au.put (.box e (cs.take (n*bU)++ys++cs.drop (n*bU+(flat us).length))) I;refine ⟨_,_,_,p,_,eM _ _ cN,df,kl,iG,⟨b,cap,cs.take (n*bU)++ys++cs.drop (n*bU+(flat us).length),rfl,f1,f2,?_,by omega,?_⟩,.hB _⟩
    · simp only [f8,ac8,ag2,ct];omega
    · have:(cs.take (n*bU)++ys).length=(n+1)*bU:=by rw [f8,ac8,ct];omega
      rw [ag4 ag,af0 ag]
theorem aa.sq (aP:bQ P Γ) (I:Ok s L) {t bH e:TypeId} {x y:Operand} {it cw aG:bN} {dZ bU sz:Nat} {ys:List af} {dk:bM} (aw:guardOf ops env o=some true) (ax:o.dst=some d) (aW:t6 d N=true)
  (ah:o.op = .call { callee := .builtin .append,args := #[x,y],argTypes := #[t,bH] }) (aN:Γ.get? t=some it) (bs:it.bG = .aC e) (cZ:Γ.get? bH=some cw) (dr:∀ k,cw.bG ≠ .int k)
  (bI:Γ.get? e=some aG) (U:aG.size=sz) (dV:ac' aG.zero.cells.size aG.size=true) (ab:aL env x=some (.aC dZ [] .nil)) (ay:aL env y=some (.aC bU [.agg ys] dk)) (c8:bU=sz) (h8:ys.length=sz) (aq:1*aG.bytes≤140737488355328)
  (h:∀ aX cf cs',cs'.length=cf*sz→1≤cf→cs'.take (1*sz)=ys→Ok s ((.own aX,.box e cs')::L)→aa P N ops l Q ((d,eu aX 1 cf)::env) (aT s ((.own aX,.box e cs')::L))):aa P N ops (o::l) Q env (aT s L):=by
 refine aa.op aw ax aW (a7.sq aP I ah aN bs cZ dr bI U dV ab ay c8 h8 aq (X:=fun _ _=>False)) ?_ (fun _ _ h=>h.elim);rintro r al ⟨aX,cf,cs',rfl,rfl,ae,an,bd,bD⟩;exact h aX cf cs' an bd bD ae
theorem aa.sr (aP:bQ P Γ) (I:Ok s L) {t bH e:TypeId} {x y:Operand} {it cw aG:bN} {b n cap bU sz:Nat} {cs ys:List af} {dk:bM} (aw:guardOf ops env o=some true) (ax:o.dst=some d) (aW:t6 d N=true)
  (ah:o.op = .call { callee := .builtin .append,args := #[x,y],argTypes := #[t,bH] }) (aN:Γ.get? t=some it) (bs:it.bG = .aC e) (cZ:Γ.get? bH=some cw) (dr:∀ k,cw.bG ≠ .int k)
  (bI:Γ.get? e=some aG) (U:aG.size=sz) (dV:ac' aG.zero.cells.size aG.size=true) (ab:aL env x=some (eu b n cap)) (au:bp L (.own b) (.box e cs) R) (ct:cs.length=cap*sz) (az:n≤cap)
  (ay:aL env y=some (.aC bU [.agg ys] dk)) (c8:bU=sz) (h8:ys.length=sz) (dP:ys.all fa=true) (aq:(n+1)*aG.bytes≤140737488355328) (er:n+1≤9223372036854775807)
  (h:∀ aX cf cs',cs'.length=cf*sz→n+1≤cf→cs'.take ((n+1)*sz)=cs.take (n*sz)++ys→Ok s ((.own aX,.box e cs')::R)→aa P N ops l Q ((d,eu aX (n+1) cf)::env) (aT s ((.own aX,.box e cs')::R))):aa P N ops (o::l) Q env (aT s L):=by
 refine aa.op aw ax aW (a7.sr aP I ah aN bs cZ dr bI U dV ab au ct az ay c8 h8 dP aq er (X:=fun _ _=>False)) ?_ (fun _ _ h=>h.elim);rintro r al ⟨aX,cf,cs',rfl,rfl,ae,an,bd,bD⟩;exact h aX cf cs' an bd bD ae
end
section
variable {J:ao→Prop} {P:Program} {Γ:cz} {N:Nat} {Q:b8→Env→ao→Prop} {env:Env} {s:ao} {l:List Oper} {o:Oper} {d m:Nat} {L R:a'}
theorem bo.sq (i:Nat) (aP:bQ P Γ) (I:Ok s L) {t bH e:TypeId} {x y:Operand} {it cw aG:bN} {dZ bU sz:Nat} {ys:List af} {dk:bM} (aF:eI l.toArray m (idxs 0 l)=[i]) (aQ:l.toArray[i]? = some o) (ax:o.dst=some d) (aW:t6 d N=true)
  (aw:c9 l env o)
  (ah:o.op = .call { callee := .builtin .append,args := #[x,y],argTypes := #[t,bH] }) (aN:Γ.get? t=some it) (bs:it.bG = .aC e) (cZ:Γ.get? bH=some cw) (dr:∀ k,cw.bG ≠ .int k)
  (bI:Γ.get? e=some aG) (U:aG.size=sz) (dV:ac' aG.zero.cells.size aG.size=true) (ab:aL (b4 l env o) x=some (.aC dZ [] .nil)) (ay:aL (b4 l env o) y=some (.aC bU [.agg ys] dk)) (c8:bU=sz) (h8:ys.length=sz) (aq:1*aG.bytes≤140737488355328)
  (aK:∀ aX cf cs',Ok s ((.own aX,.box e cs')::L)→cs'.length=cf*sz→J (aT s ((.own aX,.box e cs')::L)))
  (h:∀ aX cf cs',cs'.length=cf*sz→1≤cf→cs'.take (1*sz)=ys→Ok s ((.own aX,.box e cs')::L)→bo J P Γ N l.toArray Q (bX (m|||2^i)) ((d,eu aX 1 cf)::env) (aT s ((.own aX,.box e cs')::L))):bo J P Γ N l.toArray Q (bX m) env (aT s L):=by
 refine bo.one aF aQ ax aW aw (a7.sq aP I ah aN bs cZ dr bI U dV ab ay c8 h8 aq (X:=fun _ _=>False)) ?_ ?_ (fun _ _ h=>h.elim)
 ·rintro r al ⟨aX,cf,cs',rfl,rfl,ae,an,bd,bD⟩
  exact .inl (aK aX cf cs' ae an)
 ·rintro r al ⟨aX,cf,cs',rfl,rfl,ae,an,bd,bD⟩
  exact h aX cf cs' an bd bD ae
theorem bo.sr (i:Nat) (aP:bQ P Γ) (I:Ok s L) {t bH e:TypeId} {x y:Operand} {it cw aG:bN} {b n cap bU sz:Nat} {cs ys:List af} {dk:bM} (aF:eI l.toArray m (idxs 0 l)=[i]) (aQ:l.toArray[i]? = some o) (ax:o.dst=some d) (aW:t6 d N=true)
  (aw:c9 l env o)
  (ah:o.op = .call { callee := .builtin .append,args := #[x,y],argTypes := #[t,bH] }) (aN:Γ.get? t=some it) (bs:it.bG = .aC e) (cZ:Γ.get? bH=some cw) (dr:∀ k,cw.bG ≠ .int k)
  (bI:Γ.get? e=some aG) (U:aG.size=sz) (dV:ac' aG.zero.cells.size aG.size=true) (ab:aL (b4 l env o) x=some (eu b n cap)) (au:bp L (.own b) (.box e cs) R) (ct:cs.length=cap*sz) (az:n≤cap)
  (ay:aL (b4 l env o) y=some (.aC bU [.agg ys] dk)) (c8:bU=sz) (h8:ys.length=sz) (dP:ys.all fa=true) (aq:(n+1)*aG.bytes≤140737488355328) (er:n+1≤9223372036854775807)
  (aK:∀ aX cf cs',Ok s ((.own aX,.box e cs')::R)→cs'.length=cf*sz→J (aT s ((.own aX,.box e cs')::R)))
  (h:∀ aX cf cs',cs'.length=cf*sz→n+1≤cf→cs'.take ((n+1)*sz)=cs.take (n*sz)++ys→Ok s ((.own aX,.box e cs')::R)→bo J P Γ N l.toArray Q (bX (m|||2^i)) ((d,eu aX (n+1) cf)::env) (aT s ((.own aX,.box e cs')::R))):bo J P Γ N l.toArray Q (bX m) env (aT s L):=by
 refine bo.one aF aQ ax aW aw (a7.sr aP I ah aN bs cZ dr bI U dV ab au ct az ay c8 h8 dP aq er (X:=fun _ _=>False)) ?_ ?_ (fun _ _ h=>h.elim)
 ·rintro r al ⟨aX,cf,cs',rfl,rfl,ae,an,bd,bD⟩
  exact .inl (aK aX cf cs' ae an)
 ·rintro r al ⟨aX,cf,cs',rfl,rfl,ae,an,bd,bD⟩
  exact h aX cf cs' an bd bD ae
end
section
variable {P:Program} {Γ:cz} {N:Nat} {env:Env} {s:ao} {ops:Array Oper} {rest:List Oper} {Q:b8→Env→ao→Prop} {L R:a'}
theorem Ng:∀ (ys r:List af),ug ys.length (ys++r)=some ys
 | [],r=>by cases r<;>rfl
 | y::ys,r=>by rw [i8,ab',ug,Ng ys r]
theorem Nh:∀ (a r:List af),qo a.length (a++r)=some r
 | [],r=>rfl
 | y::ys,r=>by rw [i8,ab',qo];exact Nh ys r
def HI (i:bN):Bool:=match i.bG with
 | .struct _=>true
 | _=>false
theorem WY {i:bN} {a ys z:List af} (U:HI i=true) (aB:ys.length=i.size) {off:Nat} (a8:a.length=off):hO i (a++(ys++z)) off=some (.agg ys):=by
 unfold hO HI at *;subst a8;rw [Nh];simp only;split at U
 ·rename_i h;rw [h];simp only;rw [← aB,Ng]
 ·cases U
theorem DM {xss:List (List af)} {sz:Nat} (ca:∀ c∈xss,c.length=sz):∀ {j:Nat} {ys:List af},xss[j]? = some ys→∃ a z,xss.flatten=a++(ys++z)∧a.length=j*sz∧∀ ys',(xss.set j ys').flatten=a++(ys'++z):=by
 induction xss with
 | nil=>intro j ys h;cases h
 | cons x r a6=>
  intro j ys h;cases j with
  | zero=>
   simp at h;subst h;exact ⟨[],r.flatten,by simp,by simp,fun ys'=>by simp⟩
  | succ j=>
   obtain ⟨a,z,U,ae,an⟩:=a6 (fun c aA=>ca c (i5 _ aA)) fZ;refine ⟨x++a,z,by rw [ap3,U,ae'],by rw [f8,ca x i7,ae,at7,an1],fun ys'=>?_⟩;rw [List.set_cons_succ,ap3,an,ae']
theorem WZ {xss:List (List af)} {sz:Nat} (ca:∀ c∈xss,c.length=sz):xss.flatten.length=xss.length*sz:=by
 induction xss with
 | nil=>simp
 | cons x r a6=>rw [ap3,f8,ca x i7,a6 (fun c aA=>ca c (i5 _ aA)),i8,at7,an1]
theorem Ni {i:bN} {cs:List af} {xss:List (List af)} {n j:Nat} {ys:List af} (U:HI i=true) (ca:∀ c∈xss,c.length=i.size) (ab:cs.take (n*i.size)=xss.flatten) (aK:xss[j]? = some ys):hO i cs (j*i.size)=some (.agg ys):=by
 obtain ⟨a,z,ae,an,-⟩:=DM ca aK;have:cs=a++(ys++(z++cs.drop (n*i.size))):=by
  conv=>lhs;rw [← ag5 (n*i.size) cs,ab,ae]
  simp
 rw [this];exact WY U (ca ys (d5 aK)) an
theorem HJ:∀ (ys ys' a z:List af),ys'.length=ys.length→eU a.length ys' (a++(ys++z))=a++(ys'++z)
  | [],[],a,z,_=>by simp [eU]
  | y::ys,Nj::ys',a,z,h=>by
    have:=HJ ys ys' (a++[Nj]) z fZ;rw [f8,ae',ae'] at this;rw [eU,aj1 _ _ (i0 _),ao1];exact this
theorem Nk {sz:Nat} {cs:List af} {xss:List (List af)} {n j:Nat} {ys ys':List af} (ca:∀ c∈xss,c.length=sz) (ab:cs.take (n*sz)=xss.flatten) (aK:xss[j]? = some ys) (aB:ys'.length=sz) :
  (eU (j*sz) ys' cs).length=cs.length∧(eU (j*sz) ys' cs).take (n*sz)=(xss.set j ys').flatten:=by
 obtain ⟨a,z,ae,an,bd⟩:=DM ca aK;have h8:=ca ys (d5 aK);have aA:cs=a++(ys++(z++cs.drop (n*sz))):=by
  conv=>lhs;rw [← ag5 (n*sz) cs,ab,ae]
  simp
 have hlen:(xss.flatten).length≤n*sz:=by rw [← ab,ac8];omega
 have bD:eU (j*sz) ys' cs=a++(ys'++(z++cs.drop (n*sz))):=by
  conv=>lhs;rw [aA,← an]
  exact HJ ys ys' a _ ag
 refine ⟨by rw [bD];(conv=>rhs;rw [aA]);simp;omega,?_⟩;rw [bD,bd];by_cases ax:cs.length≤n*sz
 ·rw [List.drop_eq_nil_of_le ax,d7,af0]
  have:(a++(ys'++z)).length=(a++(ys++z)).length:=by simp;omega
  rw [this,← ae];exact hlen
 ·have fk:(xss.flatten).length=n*sz:=by rw [← ab,ac8];omega
  have ij:(a++(ys'++z)).length=n*sz:=by rw [← fk,ae];simp;omega
  rw [show a++(ys'++(z++cs.drop (n*sz)))=(a++(ys'++z))++cs.drop (n*sz) by simp,ag4 ag,af0 ag]
theorem dz.Bf {B:fP} {ro:Option Nat} {a:Act} {w:World} {p:bT} (h:dz N B ro env s a w p) {kb b n cap sz i:Nat} {T xd:TypeId} {cells cs:List af} {xss:List (List af)} (cO:kb≠b) (j9:s kb=some (.box T cells)) (aA:cells[i]? = some (eu b n cap)) (au:s b=some (.box xd cs)) (ab:cs.take (n*sz)=xss.flatten) (e7:xss.length=n)
  (ca:∀ c∈xss,c.length=sz) (az:n≤cap) (hm:n≤9223372036854775807):∃ bk,dz N B ro env ((s.del b).set kb (.box T (cells.set i (.aC sz (xss.map af.agg) .bc)))) a w bk∧de w p w bk∧Kept s ((s.del b).set kb (.box T (cells.set i (.aC sz (xss.map af.agg) .bc)))) w p w bk:=by
 obtain ⟨vs,U,ae,an⟩:=h.wf.obj _ _ au;have ar:b<w.heap.size:=(i9.1 U).1;have hle:de w p w (p.ej b True):=⟨rfl,rfl,rfl,i0 _,fun _ _ h => .inl h,fun _ _ _=>rfl,fun _ _ h=>h⟩;have dd:∀ v,Rel w p v (eu b n cap)→Rel w (p.ej b True) v (.aC sz (xss.map af.agg) .bc):=by
  intro v aF;cases aF;have hH:=ae.take (n*sz);rw [ab] at hH;obtain ⟨us,cb,b1,eV⟩:=FY hH ca;refine .aC b 0 n cap sz us (xss.map af.agg) .bc ba (by rw [f6,e7]) ?_ (cb.mono hle) eV hm az (fun h=>by cases h) (fun b h=>by cases h);rw [b1];intro i v aQ;refine ⟨.inr ⟨rfl,trivial⟩,?_⟩;rw [ae4,jJ U];rw [af'] at aQ;split at aQ
  ·simpa using aQ
  ·cases aQ
 have aD:Kept s ((s.del b).set kb (.box T (cells.set i (.aC sz (xss.map af.agg) .bc)))) w p w (p.ej b True):=⟨fun _ _ _=>rfl,fun aX aq gd=>by
  have bd:aX≠kb:=fun e=>by subst e;rw [j9] at gd;cases gd
  rw [ao.fA _ _ bd]
  by_cases e:aX=b
  ·subst e;exact ao.nr _ _
  ·rw [ao.mN _ e];exact gd,fun aX o aq gd aE=>by
   rcases aE with aE|⟨rfl,_⟩
   ·exact aE
   ·rw [au] at gd;cases gd⟩
 have cd:dq w (p.ej b True) ((s.del b).set kb (.box T (cells.set i (.aC sz (xss.map af.agg) .bc)))):=by
  refine ⟨fun aX o aq=>?_,fun aX o aE=>by rcases aE with aE|⟨rfl,_⟩;exact h.wf.lt _ _ aE;exact ar⟩;have e9:aX≠b→∀ o,p.ej b True aX o↔p aX o:=fun e o=>⟨fun aE=>by rcases aE with aE|⟨e',_⟩;exact aE;exact absurd e' e,.inl⟩
  by_cases jI:aX=kb
  ·subst jI
   rw [ao.gu] at aq;cases aq;obtain ⟨us,g1,g2,g3⟩:=h.wf.obj _ _ j9;obtain ⟨v,uo,mP⟩:=g2.get aA;have bD:=(g2.mono hle).set i (dd v mP);have fk:us.toList.set i v=us.toList:=by
    apply an8;intro k;rw [ar8];split
    ·rename_i e;subst e
     split
     ·rw [uo]
     ·rename_i ar;rw [aj9 ag]
    ·rfl
   rw [fk] at bD;exact ⟨us,g1,bD,fun o aE=>g3 o ((e9 cO o).1 aE)⟩
  rw [ao.fA _ _ jI] at aq;by_cases e:aX=b
  ·subst e;rw [ao.nr] at aq;cases aq
  ·rw [ao.mN _ e] at aq
   have ah:=h.wf.obj aX o aq;have e9:=e9 e;cases o with
   | box t c=>obtain ⟨us,g1,g2,g3⟩:=ah;exact ⟨us,g1,g2.mono hle,fun o aE=>g3 o ((e9 o).1 aE)⟩
   | row t sz n=>obtain ⟨cur,g1,g2,g3,g4⟩:=ah;exact ⟨cur,g1,g2,g3,fun o=>(e9 o).trans (g4 o)⟩
   | map es=>obtain ⟨cM,c,g1,g2,g3⟩:=ah;exact ⟨cM,c,g1,⟨g2.1.mono hle,g2.2.mono hle⟩,g3⟩
   | ll es it l c=>exact ah.qm hle C C
   | tick m=>exact ah
   | loop r env=>exact ⟨ah.1,fun t v h=>(ah.2 t v h).mono hle⟩
 exact ⟨_,h.step hle aD cd,hle,aD⟩
theorem ad.Bf {c:Code} (I:Ok s L) {kb b n cap sz:Nat} (i:Nat) {T xd:TypeId} {cells cs:List af} {xss:List (List af)} {dx:a'} (U:bp L (.own kb) (.box T cells) R) (ae:bp R (.own b) (.box xd cs) dx) (aA:cells[i]? = some (eu b n cap)) (ab:cs.take (n*sz)=xss.flatten) (e7:xss.length=n) (ca:∀ c∈xss,c.length=sz) (az:n≤cap) (hm:n≤9223372036854775807)
  (h:Ok s ((.own kb,.box T (cells.set i (.aC sz (xss.map af.agg) .bc)))::dx)→ad P N c Q env (aT s ((.own kb,.box T (cells.set i (.aC sz (xss.map af.agg) .bc)))::dx))):ad P N c Q env (aT s L):=by
 obtain ⟨g1,g2,g3,g4,g5⟩:=M0 (o'' := .box T (cells.set i (.aC sz (xss.map af.agg) .bc))) I U ae;intro tl B a w p eZ aI;obtain ⟨bk,an,bd,bD⟩:=aI.Bf g1 g2 aA g3 ab e7 ca az hm;rw [g4] at an bD;exact mc (h g5 tl B a w bk eZ an) fun _ _ _ q=>q.after bd bD
end
end Go.cW
namespace Go.Proofs.YtnafpeohfbglmaaGreat
open Go.cW Go.dv
abbrev yR:=Option (Nat×Nat×List af)
def ri:yR→List aj→af
 | none,_ => .aC 0 [] .nil
 | some (g,cap,_),l=>eu g l.length cap
def p':yR→a'
 | none=>[]
 | some (g,_,cs)=>[(.own g,.box 58 cs)]
def HK:yR→List aj→Prop
 | none,l=>l=[]
 | some (_,cap,cs),l=>cs.length=cap*6∧l.length≤cap∧cs.take (l.length*6)=(l.map aj.cells).flatten
theorem HL (l:List aj):∀ c∈l.map aj.cells,c.length=6:=fun c aA=>by obtain ⟨x,-,rfl⟩:=ad7.1 aA;rfl
def oy (cI:Nat) (f:aj):bM×dG:=(.own cI,.box 58 f.cells)
theorem W0 (cI:Nat) (x f:aj) (ab:x.path.length<bu) (aZ:f.path.length<bu):dt d0 (.func 103 [] [.ptr cI 0]) [x.bJ] [oy cI f] (fun o K=>o = .ret (.bool (fy x f))∧K=[oy cI f]):=by
 have U:=Ly x f ab aZ;have U:aR d0 104 [x.bJ,f.bJ] (.bool (fy x f)):=U;refine dt.fp (first:=[]) (cap:=[.ptr cI 0]) ?_;refine bE.bj ai Tryz.func103 C C fun s I=>?_
 unfold oy at I ⊢;rw [aj.bW,aj.bW] at U;rw [aj.bW];unfold aj.cells at *;refine hl I ?_;intro I;exact Fin.bz I C aM (aH.all _) ⟨rfl,rfl⟩
theorem W1 (g cap:Nat) (cs:List af) (l:List aj) (aB:l.length<bu) (U:cs.length=cap*6) (ae:l.length≤cap) (an:cs.take (l.length*6)=(l.map aj.cells).flatten) (cI:Nat) (f:aj) (aZ:f.path.length<bu) (aE:∀ x∈l,x.path.length<bu) :
  bE d0 150 [eu g l.length cap,.func 103 [] [.ptr cI 0]] [(.own g,.box 58 cs),oy cI f]
   (fun o K=>o = .ret (.int .i64 (match l.findIdx? (fun x=>fy x f) with
    | some i=>(i:Int)
    | none => -1))∧K=[(.own g,.box 58 cs),oy cI f]):=by
 have aq:=bC;refine bE.bj ai Tryz.func150 C C fun s I=>?_
 unfold oy at I ⊢;refine dL ?_;refine aa.qJ ai C C C C C C C ?_;refine dC ?_;refine ad.b0 [0,1,7] C I (σ:=Nat) (fun j=>[(8,.int .i64 (j:Int))]) (fun _=>[(.own g,.box 58 cs),oy cI f]) (fun j=>j≤l.length∧∀ i x,i<j→l[i]? = some x→fy x f=false) (fun j=>l.length-j) 0 ⟨g7 _,fun i x aQ=>absurd aQ (al' _)⟩ (ck C) (aH.all _) ?_;rintro j ⟨aK,ak⟩ I;unfold oy at I ⊢;refine b2 ?_;refine ad.cond C (fun ar=>?_) (fun aV=>?_);rotate_left
 ·have aV:j=l.length:=by simp at aV;omega
  have ab:l.findIdx? (fun x=>fy x f)=none:=by
   rw [af8];intro z bO;obtain ⟨i,aQ⟩:=ag3 bO;have U:=qM aQ;exact ak i z ag aQ
  rw [ab];refine dB ?_;exact Fin.bz I C aM (aH.all _) ⟨rfl,rfl⟩
 have ar:j<l.length:=by simpa using ar
 obtain ⟨y,ay⟩:∃ y,l[j]? = some y:=⟨_,g6 ar⟩;have c1:=W0 cI y f (aE y (d5 ay)) aZ;rw [aj.bW] at c1;unfold oy at c1;refine bB ?_;refine aa.fo ai j C C C C C C C C C C ar ?_;refine aa.eC ai I C C C C C C .here (Ni C (HL l) an (by rw [ad2,ay];rfl)) ?_;skip;refine aa.gM rfl rfl rfl rfl rfl rfl c1 I aY ?_ (fun _ _ ⟨h,_⟩ _=>by cases h);rintro _ _ ⟨⟨⟩,rfl⟩ I;rw [ab',d8] at I ⊢;cases az:fy y f with
 | true=>
  have ab:l.findIdx? (fun x=>fy x f)=some j:=by
   rw [ae8];refine ⟨ar,by rw [(ac3.1 ay).2];exact az,fun i aQ=>?_⟩;have:=ak i l[i] aQ (g6 ag);simpa using this
  rw [ab];refine e5 ?_;exact Fin.bz I C aM (.cons (.there .here) (.cons .here .nil)) ⟨rfl,rfl⟩
 | false=>
  refine bB ?_;refine bn.mk (j+1) I ⟨ar,fun i x aQ ab=>?_⟩ b' (.cons (.there .here) (.cons .here .nil)) l3;rcases af1.1 aQ with aQ|rfl
  ·exact ak i x aQ ab
  ·rw [ay] at ab;cases ab;exact az
theorem W2 {α:Type} (q:α→Bool) (l:List α):(decide ((match l.findIdx? q with
  | some i=>(i:Int)
  | none => -1)≥0))=l.any q:=by
 cases h:l.findIdx? q with
 | none=>
  rw [af8] at h;have:l.any q=false:=by rw [ai3];intro x ab;rw [h x ab];simp
  rw [this];rfl
 | some i=>
  rw [ae8] at h;obtain ⟨U,ae,-⟩:=h;have:l.any q=true:=ae2.2 ⟨_,aj6 U,ae⟩;rw [this];simp
theorem W3 (bt:yR) (l:List aj) (aB:l.length<bu) (au:HK bt l) (cI:Nat) (f:aj) (aZ:f.path.length<bu) (aE:∀ x∈l,x.path.length<bu) :
  bE d0 102 [ri bt l,.func 103 [] [.ptr cI 0]] (p' bt++[oy cI f]) (fun o K=>o = .ret (.bool (l.any fun x=>fy x f))∧K=p' bt++[oy cI f]):=by
 cases bt with
 | none=>
  have:l=[]:=au;subst this;have h:=Gi (.func 103 [] [.ptr cI 0]) [] (fun _=>[oy cI f]) (fun _=>false) dW (fun j x h=>by cases h);refine bE.mono (bE.args (show cR [.aC 0 [] .nil,.func 103 [] [.ptr cI 0]] [.aC 6 ([].map aj.bJ) .bc,.func 103 [] [.ptr cI 0]] from .cons aS.empty (.one aM)) h) ?_;rintro o K (⟨rfl,rfl,-⟩|⟨j,h,-⟩)
  ·exact ⟨rfl,rfl⟩
  ·exact absurd h (al' _)
 | some q=>
  obtain ⟨g,cap,cs⟩:=q;obtain ⟨U,ae,an⟩:=au;rw [← W2];have h:=W1 g cap cs l aB U ae an cI f aZ aE;show bE d0 102 [eu g l.length cap,.func 103 [] [.ptr cI 0]] [(.own g,.box 58 cs),oy cI f] _;refine bE.bj ai Tryz.func102 C C fun s I=>?_
  refine dL ?_;refine aa.b9 rfl rfl rfl rfl rfl h I (aH.all _) ?_ (fun _ _ ⟨h,_⟩ _=>by cases h);rintro _ _ ⟨⟨⟩,rfl⟩ I;rw [d7] at I ⊢;refine eD ?_;exact Fin.bz I C aM (aH.all _) ⟨rfl,rfl⟩
end Go.Proofs.YtnafpeohfbglmaaGreat
namespace Go.dv
open Go.Proofs.YtnafpeohfbglmaaGreat
theorem DN (i:Nat):∀ vs:List Nat,(gx i vs).length+(gy i vs).length=vs.length
  | []=>rfl
  | v::r=>by
    have:=DN i r;unfold gx gy at *;cases h:v.testBit i<;>simp [ah3,h]<;>omega
theorem DO {i:Nat} {vs:List Nat} (h:((gx i vs).isEmpty||(gy i vs).isEmpty)=false):(gx i vs).length<vs.length∧(gy i vs).length<vs.length:=by
 have:=DN i vs;rw [ai1] at h;have U:(gx i vs).length≠0:=by intro az;rw [as0.2 az] at h;simp at h
 have ae:(gy i vs).length≠0:=by intro az;rw [as0.2 az] at h;simp at h
 omega
theorem W4 {g g':List Nat→cv} {vs:List Nat} (h:∀ l:List Nat,l.length<vs.length→g l=g' l) (out:Option cv) (i:Nat):l8 g vs out i=l8 g' vs out i:=by
 unfold l8;cases he:(gx i vs).isEmpty||(gy i vs).isEmpty with
 | true=>rfl
 | false=>
  have:=DO he;rw [d9 ba,d9 ba,h _ this.1,h _ this.2]
theorem HM {g g':List Nat→cv} {vs:List Nat} (h:∀ l:List Nat,l.length<vs.length→g l=g' l):∀ (is:List Nat) (out:Option cv),is.foldl (l8 g vs) out=is.foldl (l8 g' vs) out
 | [],_=>rfl
 | i::r,out=>by rw [af2,af2,W4 h,HM h r]
theorem HN (A:Nat) (h:Nat→List Int):∀ (f mV:Nat) (vs:List Nat),vs.length≤f→vs.length≤mV→nd A h f vs=nd A h mV vs
  | 0,mV,vs,U,_=>by
    have:vs=[]:=au2.1 ag;subst this;cases mV with
    | zero=>rfl
    | succ mV=>rw [nd,nd,rh,f9 C]
  | f+1,0,vs,_,ae=>by
    have:vs=[]:=au2.1 ag;subst this;rw [nd,nd,rh,f9 C]
  | f+1,mV+1,vs,U,ae=>by
    rw [nd,nd,HM (g:=nd A h f) (g':=nd A h mV) (fun l aB=>HN A h f mV l ag ag)]
def gT (A:Nat) (h:Nat→List Int) (vs:List Nat):cv:=nd A h vs.length vs
theorem HO (A:Nat) (h:Nat→List Int) (vs:List Nat):gT A h vs=if rh h vs then .leaf (firstM h vs) else ((ae7 A).foldl (l8 (gT A h) vs) none).getD (.leaf []):=by
 have e:gT A h vs=nd A h (vs.length+1) vs:=HN A h _ _ vs (i0 _) (ax5 _);rw [e,nd,HM (g:=nd A h vs.length) (g':=gT A h) (fun l aB=>HN A h _ _ l ag (i0 _))]
theorem W5 (p:bP) (gen:Int):HG p gen=gT (dc p gen).length (dM p gen (dc p gen)) (ka (b6 p) (dc p gen)):=rfl
theorem cv.rj:∀ t:cv,1≤t.leaves
 | .leaf _=>i0 1
 | .test _ a b=>by have:=a.rj;have:=b.rj;rw [cv.leaves];omega
theorem cv.DP:∀ t:cv,t.lz<t.leaves
  | .leaf _=>Nat.one_pos
  | .test _ a b=>by
    have:=a.DP;have:=b.DP;have:=a.rj;have:=b.rj;rw [cv.lz,cv.leaves];omega
theorem W6 {Pr:cv→Prop} {out:Option cv} {t:cv} (U:∀ o,out=some o→Pr o) (ae:Pr t):∀ o,xm out t=some o→Pr o:=by
 intro o h;unfold xm at h;cases out with
 | none=>cases h;exact ae
 | some x=>
  simp only at h;split at h
  ·cases h;exact ae
  ·cases h;exact U _ C
theorem W7 {Pr:cv→Prop} {g:List Nat→cv} {vs:List Nat} {out:Option cv} {i:Nat} (U:∀ o,out=some o→Pr o) (ae:((gx i vs).isEmpty||(gy i vs).isEmpty)=false→Pr (.test i (g (gy i vs)) (g (gx i vs)))):∀ o,l8 g vs out i=some o→Pr o:=by
 unfold l8;cases he:(gx i vs).isEmpty||(gy i vs).isEmpty with
 | true=>rw [f9 C];exact U
 | false=>rw [d9 ba];exact W6 U (ae he)
theorem Nl {Pr:cv→Prop} {g:List Nat→cv} {vs:List Nat}:∀ (is:List Nat) (out:Option cv),(∀ o,out=some o→Pr o)→(∀ i∈is,((gx i vs).isEmpty||(gy i vs).isEmpty)=false→Pr (.test i (g (gy i vs)) (g (gx i vs))))→∀ o,is.foldl (l8 g vs) out=some o→Pr o
  | [],_,U,_=>U
  | i::r,out,U,ae=>by
    rw [af2];exact Nl r _ (W7 U (ae i i7)) (fun j aK=>ae j (i5 _ aK))
theorem Nn {Pr:cv→Prop} {g:List Nat→cv} {vs:List Nat} {is:List Nat} {out:Option cv} {d:cv} (ax:Pr d) (U:∀ o,out=some o→Pr o) (ae:∀ i∈is,((gx i vs).isEmpty||(gy i vs).isEmpty)=false→Pr (.test i (g (gy i vs)) (g (gx i vs)))):Pr ((is.foldl (l8 g vs) out).getD d):=by
 cases h:is.foldl (l8 g vs) out with
 | none=>exact ax
 | some o=>exact Nl is out U ae o h
theorem Bg (A:Nat) (h:Nat→List Int):∀ (n:Nat) (vs:List Nat),vs.length≤n→(gT A h vs).leaves≤max 1 vs.length
  | n,vs,az=>by
    rw [HO];split
    · rw [cv.leaves];omega
    · refine Nn (Pr:=fun t=>t.leaves≤max 1 vs.length) (by rw [cv.leaves];omega) (fun _ h=>by cases h) (fun i _ he=>?_)
      have aB:=DO he;have ay:=DN i vs;cases n with
      | zero=>omega
      | succ n=>
        have U:=Bg A h n (gy i vs) ag;have ae:=Bg A h n (gx i vs) ag;rw [cv.leaves];omega
theorem W8 (out:Option cv) (t:cv):∃ o,xm out t=some o:=by
 unfold xm;cases out with
 | none=>exact ⟨_,rfl⟩
 | some o=>simp only;split<;>exact ⟨_,rfl⟩
theorem No {g:List Nat→cv} {vs:List Nat}:∀ (is:List Nat) (out:Option cv),(out≠none∨∃ i∈is,((gx i vs).isEmpty||(gy i vs).isEmpty)=false)→∃ o,is.foldl (l8 g vs) out=some o
  | [],out,h=>by
    rcases h with h|⟨i,aQ,_⟩
    · cases out with
      | none=>exact absurd C h
      | some o=>exact ⟨o,rfl⟩
    · cases aQ
  | i::r,out,h=>by
    rw [af2];refine No r _ ?_;unfold l8;cases he:(gx i vs).isEmpty||(gy i vs).isEmpty with
    | true=>
      rw [f9 C];rcases h with h|⟨j,aK,h⟩
      · exact .inl h
      · rcases ad1.1 aK with rfl|aK
        · rw [he] at h;cases h
        · exact .inr ⟨j,aK,h⟩
    | false=>
      rw [d9 ba];obtain ⟨o,ah⟩:=W8 out (.test i (g (gy i vs)) (g (gx i vs)));exact .inl (by rw [ah];simp)
theorem DQ {α:Type} {l:List α} {x:α} (h:x∈l):l.isEmpty=false:=by cases l with|nil=>cases h|cons=>rfl
theorem W9 {A u v:Nat} {vs:List Nat} (hu:u∈vs) (av:v∈vs) (U:u<2^A) (ae:v<2^A) (cO:u≠v):∃ i∈ae7 A,((gx i vs).isEmpty||(gy i vs).isEmpty)=false:=by
 have hex:∃ i,u.testBit i≠v.testBit i:=Classical.byContradiction fun az=>cO (Nat.eq_of_testBit_eq fun i=>Classical.byContradiction fun h=>az ⟨i,h⟩)
 obtain ⟨i,aQ⟩:=hex
 have W':i<A:=Nat.lt_of_not_le fun aV=>aQ (by
  rw [ak5 (ai7 U (af4 ag aV)),ak5 (ai7 ae (af4 ag aV))])
 refine ⟨i,ah9.2 W',?_⟩;rw [ai1];cases aq:u.testBit i with
 | true=>
  have lx:v.testBit i=false:=by cases h:v.testBit i with|false=>rfl|true=>exact absurd (aq.trans h.symm) aQ
  exact ⟨DQ (af6.2 ⟨hu,aq⟩),DQ (af6.2 ⟨av,by rw [lx];rfl⟩)⟩
 | false=>
  have lx:v.testBit i=true:=by cases h:v.testBit i with|true=>rfl|false=>exact absurd (aq.trans h.symm) aQ
  exact ⟨DQ (af6.2 ⟨av,lx⟩),DQ (af6.2 ⟨hu,by rw [aq];rfl⟩)⟩
theorem Xa {h:Nat→List Int}:∀ {vs:List Nat},rh h vs=false→∃ u∈vs,∃ v∈vs,u≠v
  | v::r,aZ=>by
    rw [rh] at aZ;have:=at5.1 aZ;obtain ⟨u,hu,cO⟩:=this;exact ⟨u,i5 _ hu,v,i7,by rintro rfl;simp at cO⟩
theorem Xb {A:Nat} {h:Nat→List Int} {vs:List Nat} (wu:∀ v∈vs,v<2^A) (aZ:rh h vs=false) (g:List Nat→cv):∃ o,(ae7 A).foldl (l8 g vs) none=some o:=by
 obtain ⟨u,hu,v,av,cO⟩:=Xa aZ;exact No _ _ (.inr (W9 hu av (wu u hu) (wu v av) cO))
end Go.dv
namespace Go.cW
section
variable {P:Program} {Γ:cz} {N:Nat} {env:Env} {s:ao} {ops:Array Oper} {rest:List Oper} {Q:b8→Env→ao→Prop} {L R:a'}
theorem dz.rk {B:fP} {ro:Option Nat} {a:Act} {w:World} {p:bT} (h:dz N B ro env s a w p) {kb:Nat} {T:TypeId} {cells ss:List af} (j9:s kb=some (.box T cells)) (hle:cR cells ss) :
  dz N B ro env (s.set kb (.box T ss)) a w p∧Kept s (s.set kb (.box T ss)) w p w p:=by
 have aD:Kept s (s.set kb (.box T ss)) w p w p:=⟨fun _ _ _=>rfl,fun aX aq gd=>by
  have bd:aX≠kb:=fun e=>by subst e;rw [j9] at gd;cases gd
  rw [ao.fA _ _ bd];exact gd,fun aX o aq gd aE=>aE⟩
 have cd:dq w p (s.set kb (.box T ss)):=by
  refine ⟨fun aX o aq=>?_,h.wf.lt⟩;by_cases jI:aX=kb
  ·subst jI
   rw [ao.gu] at aq;cases aq;obtain ⟨us,g1,g2,g3⟩:=h.wf.obj _ _ j9;exact ⟨us,g1,hle.rel g2,g3⟩
  ·rw [ao.fA _ _ jI] at aq
   exact h.wf.obj aX o aq
 exact ⟨h.step (.refl w p) aD cd,aD⟩
theorem ad.rk {c:Code} (I:Ok s L) {kb:Nat} {T:TypeId} {cells:List af} (ss:List af) (U:bp L (.own kb) (.box T cells) R) (hle:cR cells ss)
  (h:Ok s ((.own kb,.box T ss)::R)→ad P N c Q env (aT s ((.own kb,.box T ss)::R))):ad P N c Q env (aT s L):=by
 obtain ⟨g1,g2⟩:=U.put (.box T ss) I;intro tl B a w p eZ aI;obtain ⟨an,bD⟩:=aI.rk (U.get I) hle;rw [g1] at an bD;exact mc (h g2 tl B a w p eZ an) fun _ _ _ q=>q.after (.refl w p) bD
end
section
variable {P:Program} {Γ:cz} {N:Nat} {ops:Array Oper} {Q:b8→Env→ao→Prop} {env:Env} {s:ao} {l:List Oper} {o:Oper} {d:Nat}
theorem a7.DR (aP:bQ P Γ) {t e:TypeId} {v:Value} {it aG:bN} {x:af} (ah:o.op = .buildSlice t 1 #[(0,.const v)]) (aN:Γ.get? t=some it) (bs:it.bG = .aC e) (he:Γ.get? e=some aG) (Cg:Nat.ble (1*aG.size) 16777216=true) (aA:hC v=some x) (ca:ac' v.cells.size aG.size=true) :
  a7 P N o env s (fun r al=>r = .aC aG.size [x] .clip∧al=s) (fun _ _=>False):=by
 refine a7.nn jf fun ro B a w p aI=>?_
 obtain ⟨info,d,U,ae,an,-⟩:=aP.parts aN;obtain ⟨mK,c6,nT,nU,vH,nm,Jt,Cf⟩:=aP.parts he;have ax:d = .slice e:=by rw [bs] at an;cases d<;>simp [ez] at an;rw [an]
 subst ax;have au:=ac1 ca;have hm:=Nat.le_of_ble_eq_true Cg;have b1:bF w p [v] [x] := .cons _ _ _ _ (qp aA) .nil;have eV:∀ u∈[v],u.cells.size=aG.size:=fun u hu=>by rw [z2.1 hu];exact au
 have kx:(flat [v]).length=1*aG.size:=by simp [flat,au]
 have sS:∀ sT:Array Value,sT.size=1*aG.size→Instr.fill (fun i=>some (i*aG.size,aG.size)) sT ((#[(0,Operand.const v)]:Array (Nat×Operand)).map fun x=>(x.1,a.eval x.2)).toList=some (flat [v]).toArray:=by
  intro sT oM;have:=Jo aG.size [v] 0 [] sT.toList ba (by rw [ac7,oM];rfl) eV;simp only [d8] at this;simpa [Act.eval] using this
 refine gU.alloc (flat [v]).toArray e aI.wf.lt (val := .slice (some ⟨w.heap.size,0,none⟩) 1 1) ?_ ?_
 ·unfold execOp
  rw [ah];refine gV ?_;have py:¬ (1*aG.size>2^24):=by omega
  unfold Instr.buildSlice;simp only [aa',run_underlying ae,g9,sizeOf,typeInfo,run_program,nT,ac5,nm,d9 py];by_cases br:1*aG.size=0
  ·rw [f9 br,aa',ac5,g9,sS _ ba]
   rfl
  ·rw [d9 br]
   simp only [zeroValue,typeInfo,aa',run_program,nT,Cf,ac5,g9];rw [sS _ ba];rfl
 ·refine .aC _ 0 _ _ _ [v] _ _ ba rfl ?_ (b1.mono (uf aI.wf.lt _ _)) eV ?_ (i0 _) (fun _=>rfl) (fun b aq=>by cases aq)
  ·exact EO (w:=w) (p:=p) (flat [v]) e
  ·omega
theorem aa.DR (aP:bQ P Γ) {t e:TypeId} {v:Value} {it aG:bN} {x:af} (aw:guardOf ops env o=some true) (ax:o.dst=some d) (aW:t6 d N=true) (ah:o.op = .buildSlice t 1 #[(0,.const v)]) (aN:Γ.get? t=some it) (bs:it.bG = .aC e) (he:Γ.get? e=some aG) (Cg:Nat.ble (1*aG.size) 16777216=true) (aA:hC v=some x) (ca:ac' v.cells.size aG.size=true)
  (h:aa P N ops l Q ((d,.aC aG.size [x] .clip)::env) s):aa P N ops (o::l) Q env s:=
 aa.op aw ax aW (a7.DR aP ah aN bs he Cg aA ca) (fun x al ⟨U,ae⟩=>by subst U;subst ae;exact h) (fun _ _ h=>h.elim)
end
section
variable {P:Program} {Γ:cz} {N:Nat} {l:List Oper} {i:Nat} {rest:List Oper} {Q:b8→Env→ao→Prop} {env:Env} {s:ao} {o:Oper} {d:Nat}
theorem aJ.tO {L R K:a'} {acv:eB→a'→Prop} {b:Nat} {dI:dG} {f:FuncId} {fS:Array Operand} {c0:Array TypeId} {xs:List af} (aw:c9 l env o) (ax:o.dst=some d) (aW:t6 d N=true) (aF:eI l.toArray (2^i-1) (idxs 0 l)=[i])
  (b5:o.op = .call { callee := .value (.func f),args:=fS,argTypes:=c0 }) (a8:fQ (b4 l env o) fS.toList=some xs) (h:bE P f xs K acv) (I:Ok s L) (au:aH L K R)
  (aK:∀ x aO,acv (.ret x) aO→∃ dx,bp (aO++R) (.own b) dI dx)
  (aD:∀ x aO,acv (.ret x) aO→Ok s (aO++R)→aJ (fun al=>al b=some dI) P Γ N l (i+1) rest Q ((d,x)::env) (aT s (aO++R))) (ab:∀ x aO,acv (.panic x) aO→Ok s (aO++R)→Q (.panic x) [] (aT s (aO++R))):aJ (fun al=>al b=some dI) P Γ N l i (o::rest) Q env (aT s L):=
 aJ.yg aw ax aW aF (a7.b9 b5 a8 h I au) (fun x al ⟨aO,U,ae,an⟩=>by subst U;obtain ⟨dx,hG⟩:=aK x aO an;exact hG.get ae) (fun x al ⟨aO,U,ae,an⟩=>by subst U;exact aD x aO an ae) (fun x al ⟨aO,U,ae,an⟩=>by subst U;exact ab x aO an ae)
end
section
variable {P:Program} {N:Nat} {ops:Array Oper} {Q:b8→Env→ao→Prop} {env:Env} {s:ao} {l:List Oper} {o:Oper} {d:Nat}
theorem aa.r2 {g:Operand} {name:String} {fS:Array Operand} {c0:Array TypeId} {t:TypeId} {v:af} {f:FuncId} {xs:List af} {r:af} (aw:guardOf ops env o=some true) (ax:o.dst=some d) (aW:t6 d N=true)
  (ah:o.op = .call { callee := .invoke g name,args:=fS,argTypes:=c0 }) (av:aL env g=some (.iface t v)) (a8:fQ env fS.toList=some xs) (hm:pF P t name f) (h:aR P f (v::xs) r)
  (aD:aa P N ops l Q ((d,r)::env) s):aa P N ops (o::l) Q env s:=
 aa.invoke aw ax aW ah av a8 hm (h s) (fun x al ⟨U,ae⟩=>by cases U;subst ae;exact aD) (fun x al ⟨U,_⟩=>by cases U)
end
section
variable {P:Program} {Γ:cz} {N:Nat} {l:List Oper} {i:Nat} {rest:List Oper} {Q:b8→Env→ao→Prop} {env:Env} {s:ao} {o:Oper} {d:Nat} {L R:a'}
theorem aJ.jw (aP:bQ P Γ) (I:Ok s L) {t dY e0:TypeId} {x y:Operand} {ok:Bool} {it gL aG:bN} {m:Nat} {es:List (af×af)} {k z:af} {r:Option af} (aw:c9 l env o) (ax:o.dst=some d) (aW:t6 d N=true)
  (ah:o.op = .lookup t x y ok) (aN:Γ.get? t=some it) (bs:it.bG = .map dY e0) (h0:Γ.get? dY=some gL) (bI:Γ.get? e0=some aG) (ab:aL (b4 l env o) x=some (.map m)) (ay:aL (b4 l env o) y=some k) (au:bp L (.own m) (.map es) R)
  (aZ:kf gL.bG k=true) (aF:jb es k=some r) (bO:hC aG.zero=some z) (h:aJ (fun al=>al=aT s L) P Γ N l (i+1) rest Q ((d,lP ok z r)::env) (aT s L)):aJ (fun al=>al=aT s L) P Γ N l i (o::rest) Q env (aT s L):=
 aJ.calm aw ax aW (fun _ e=>by subst e;exact a7.jw aP I ah aN bs h0 bI ab ay au aZ aF bO) h
end
section
variable {J:ao→Prop} {P:Program} {Γ:cz} {N:Nat} {l:List Oper} {i:Nat} {Q:b8→Env→ao→Prop} {env:Env} {s:ao} {o:Oper} {L R:a'}
theorem aJ.mW (aP:bQ P Γ) (I:Ok s L) {t dY e0:TypeId} {x y z:Operand} {it gL:bN} {b:Nat} {es:List (af×af)} (dy:List (af×af)) {k v:af} (aw:c9 l env o) (ax:o.dst=none) (l2:kE l.toArray i=true)
  (b5:o.op = .mapUpdate t x y z∨o.op = .insert t x y z) (aN:Γ.get? t=some it) (bs:it.bG = .map dY e0) (h0:Γ.get? dY=some gL) (ab:aL (b4 l env o) x=some (.map b)) (ay:aL (b4 l env o) y=some k) (bO:aL (b4 l env o) z=some v)
  (au:bp L (.own b) (.map es) R) (aZ:kf gL.bG k=true) (aE:lO es k v=some dy)
  (h:Ok s ((.own b,.map dy)::R)→Q .normal env (aT s ((.own b,.map dy)::R))):aJ J P Γ N l i [o] Q env (aT s L):=
 aJ.Gp aw ax l2 (a7.mW aP I b5 aN bs h0 ab ay bO au aZ aE (X:=fun _ _=>False)) (fun x al ⟨U,ae⟩=>by subst U;exact h ae) (fun _ _ h=>h.elim)
end
end Go.cW
namespace Go.Proofs.YtnafpeohfbglmaaGreat
open Go.cW Go.dv
def lg:cv→af
 | .leaf ms => .iface 154 (.agg [bg ms])
 | .test i a b => .iface 156 (.agg [.int .i64 (i:Int),lg a,lg b])
theorem Xc:pF d0 154 "consort/tree.size" 333 := CL fC
theorem Xd:pF d0 156 "consort/tree.size" 334 := CL fC
theorem Xe (ms:List Int):aR d0 333 [.agg [bg ms]] (.cu [.int .i64 0,.int .i64 1]):=by
 have aq:=bC;refine aR.bj ai Tryz.func333 C C fun s I=>?_
 unfold bg;refine gH ?_;exact bm I
theorem tP:∀ t:cv,∃ ty v f,lg t = .iface ty v∧pF d0 ty "consort/tree.size" f∧(t.leaves<2^40→aR d0 f [v] (.cu [.int .i64 (t.lz:Int),.int .i64 (t.leaves:Int)]))
  | .leaf ms=>⟨_,_,_,rfl,Xc,fun _=>Xe ms⟩
  | .test i a b=>by
    obtain ⟨t1,v1,f1,cb,k8,c7⟩:=tP a;obtain ⟨t2,v2,f2,b1,gN,dh⟩:=tP b;refine ⟨_,_,_,rfl,Xd,fun aB=>?_⟩;rw [cv.leaves] at aB;have c7:=c7 ag;have dh:=dh ag;have U:=a.DP;have ae:=b.DP;rw [cb,b1,cv.lz,cv.leaves];refine aR.bj ai Tryz.func334 C C fun s I=>?_
    refine dL ?_;refine aa.r2 C C C C C C k8 c7 ?_;refine ht ?_;refine aa.r2 C C C C C C gN dh ?_;refine bB ?_;refine Fin.cp I C (aS.of_eq ?_);rw [eo (by split<;>omega) (by split<;>omega),eo ag ag];congr 3
    · congr 1
      split<;>omega
theorem Xf (a b:cv) (a8:a.leaves<2^40) (dO:b.leaves<2^40):aR d0 108 [lg a,lg b] (.bool (a.before b)):=by
 have aq:=bC;refine aR.bj ai Tryz.func108 C C fun s I=>?_
 obtain ⟨t1,v1,f1,cb,k8,c7⟩:=tP a;obtain ⟨t2,v2,f2,b1,gN,dh⟩:=tP b;have c7:=c7 a8;have dh:=dh dO;rw [cb,b1];unfold cv.before;refine dL ?_;refine aa.r2 C C C C C C k8 c7 ?_;refine ht ?_;refine aa.r2 C C C C C C gN dh ?_;by_cases U:a.lz<b.lz
 ·rw [i6 U,ai4]
  refine ht ?_;refine aa.ds 22 C (i6 ag) ?_;refine ew ?_;exact bm I
 ·rw [t8 U,ae9]
  refine ht ?_;refine aa.c2 22 C (t8 ag) ?_;by_cases ae:a.lz=b.lz
  ·rw [i6 ae,f0]
   refine dS ?_;refine aa.ds 26 C cE ?_;refine eD ?_;refine Fin.cp I C (aS.of_eq (congrArg af.bool ?_));rw [ad3];simp
  ·rw [t8 ae,f5]
   refine dS ?_;refine aa.c2 26 C cE ?_;refine ew ?_;exact bm I
end Go.Proofs.YtnafpeohfbglmaaGreat
namespace Go.cW
theorem yS {sz:Nat} {cs:List af} {xss:List (List af)} {n j k:Nat} {ys:List af} {v:af} (ca:∀ c∈xss,c.length=sz) (ab:cs.take (n*sz)=xss.flatten) (aK:xss[j]? = some ys) (aD:k<sz) :
  (eU (j*sz+k) [v] cs).length=cs.length∧(eU (j*sz+k) [v] cs).take (n*sz)=(xss.set j (ys.set k v)).flatten:=by
 have h8:=ca ys (d5 aK);have h:=Nk (ys':=ys.set k v) ca ab aK (by rw [ad'];exact h8);obtain ⟨a,z,ae,an,-⟩:=DM ca aK;have aA:cs=a++(ys++(z++cs.drop (n*sz))):=by
  conv=>lhs;rw [← ag5 (n*sz) cs,ab,ae]
  simp
 have e:eU (j*sz) (ys.set k v) cs=eU (j*sz+k) [v] cs:=by
  rw [pT]
  conv=>lhs;rw [aA,← an]
  conv=>rhs;rw [aA,← an]
  rw [HJ ys _ a _ (ad' ..),aj1 _ _ ag,ao5,av6 _ _ ag]
 rw [e] at h;exact h
theorem Np {sz:Nat} {cs:List af} {xss:List (List af)} {n j k:Nat} {ys:List af} {v:af} (ca:∀ c∈xss,c.length=sz) (ab:cs.take (n*sz)=xss.flatten) (aK:xss[j]? = some ys) (aD:ys[k]? = some v):cs[j*sz+k]? = some v:=by
 obtain ⟨a,z,ae,an,-⟩:=DM ca aK;have aA:cs=a++(ys++(z++cs.drop (n*sz))):=by
  conv=>lhs;rw [← ag5 (n*sz) cs,ab,ae]
  simp
 have sg:=(ac3.1 aD).1;rw [aA,← an,ad5 ag,ao5,ad6 sg];exact aD
end Go.cW
namespace Go.Proofs.YtnafpeohfbglmaaGreat
open Go.cW Go.dv
abbrev Bh:=Option (Nat×Nat×List af)
def kc:Bh→List b7→af
 | none,_ => .aC 0 [] .nil
 | some (g,cap,_),l=>eu g l.length cap
def jE:Bh→a'
 | none=>[]
 | some (g,_,cs)=>[(.own g,.box 69 cs)]
def yT:Bh→List b7→Prop
 | none,l=>l=[]
 | some (_,cap,cs),l=>cs.length=cap*4∧l.length≤cap∧cs.take (l.length*4)=(l.map gY).flatten
theorem pn (l:List b7):∀ c∈l.map gY,c.length=4:=fun c aA=>by obtain ⟨x,-,rfl⟩:=ad7.1 aA;rfl
theorem yU (l:List b7) (x:b7):((l++[x]).map gY).flatten=(l.map gY).flatten++gY x:=by simp
theorem tQ:∀ (t:cv) (L:List b7),(cv.laid L t).length+1=L.length+2*t.leaves
  | .leaf ms,L=>by rw [cv.laid,cv.leaves,f8];rfl
  | .test i a b,L=>by
    have U:=tQ a (L++[⟨i,0,0,[]⟩]);have ae:=tQ b (cv.laid (L++[⟨i,0,0,[]⟩]) a);rw [cv.laid,cv.leaves,ad'];rw [f8,i8,ae0] at U;omega
theorem Bi:∀ (t:cv) (L:List b7) (j:Nat),j<L.length→(cv.laid L t)[j]? = L[j]?
  | .leaf ms,L,j,h=>by rw [cv.laid,ad6 h]
  | .test i a b,L,j,h=>by
    rw [cv.laid];rw [List.getElem?_set_ne ag,Bi b _ j (by have U:=tQ a (L++[⟨i,0,0,[]⟩]);have ae:=a.rj;rw [f8,i8,ae0] at U;omega),Bi a _ j (by rw [f8];omega),ad6 h]
theorem Xg:∀ (t:cv) (L:List b7) (bt:Bh),yT bt L→L.length+2*t.leaves<2^31 →
  bE d0 61 [kc bt L,lg t] (jE bt) (fun o K=>∃ rb,yT rb (cv.laid L t)∧o = .ret (.cu [kc rb (cv.laid L t),.int .i64 (L.length:Int)])∧K=jE rb):=by
 have ny:bu=1099511627776:=rfl;intro t
 induction t with
 | leaf ms=>
  intro L bt dd bK;rw [cv.leaves] at bK;refine bE.bj ai Tryz.func61 C C fun s I=>?_
  rw [cv.laid];rcases bt with _|⟨g,cap,cs⟩
  ·have br:L=[]:=dd
   subst br;unfold kc jE lg at *;refine ea ?_;refine aa.sq ai I C C C C C C C et C C C C C C C dW (fun dA gz gk c7 dh e3 I=>?_);refine bB ?_;exact Fin.bz I C aM (by simp only [jE];exact aY) ⟨some (dA,gz,gk),⟨c7,dh,e3.trans (by simp;rfl)⟩,rfl,rfl⟩
  ·obtain ⟨U,ae,an⟩:=dd
   unfold kc jE lg at *;refine dL ?_;refine aa.qJ ai C C C C C C C ?_;refine ea ?_;refine aa.sr ai I C C C C C C C et C C C C a1 U ae C C C C (by show (L.length+1)*48≤_;omega) ag (fun dA gz gk c7 dh e3 I=>?_);refine bB ?_;exact Fin.bz I C (aS.of_eq (by simp [eu,kc])) (by simp only [jE];exact aY) ⟨some (dA,gz,gk),⟨c7,u1,by rw [yU,f8,i8,ae0,← an];exact e3⟩,rfl,rfl⟩
 | test i a b rl Bj=>
  intro L bt dd bK;rw [cv.leaves] at bK;have Nq:=a.rj;have dg:=b.rj;have Xh:=tQ a (L++[⟨i,0,0,[]⟩]);have Ak:=tQ b (cv.laid (L++[⟨i,0,0,[]⟩]) a);have DS:(L++[(⟨i,0,0,[]⟩:b7)]).length=L.length+1:=by simp
  rw [DS] at Xh;have pz:(cv.laid (cv.laid (L++[⟨i,0,0,[]⟩]) a) b)[L.length]? = some ⟨i,0,0,[]⟩:=by
   rw [Bi b _ _ ag,Bi a _ _ ag,ad5 (i0 _),ao1];rfl
  have rl:=fun bt h=>rl (L++[⟨i,0,0,[]⟩]) bt h ag
  have Bj:=fun bt h=>Bj (cv.laid (L++[⟨i,0,0,[]⟩]) a) bt h ag
  have su:cv.laid L (.test i a b)=(cv.laid (cv.laid (L++[⟨i,0,0,[]⟩]) a) b).set L.length ⟨i,(L.length:Int)+1,((cv.laid (L++[⟨i,0,0,[]⟩]) a).length:Int),[]⟩:=rfl;rw [su];obtain ⟨acB,DT,zx,vX,-,-⟩:=tP a;obtain ⟨QR,zE,cI,HP,-,-⟩:=tP b;simp only [vX] at rl;simp only [HP] at Bj;generalize eQ:cv.laid (L++[⟨i,0,0,[]⟩]) a=yQ at *;generalize sv:cv.laid yQ b=fW at *;refine bE.bj ai Tryz.func61 C C fun s I=>?_
  rcases bt with _|⟨g,cap,cs⟩
  ·have br:L=[]:=dd
   subst br;unfold kc lg;rw [vX,HP];unfold jE at I ⊢;refine ea ?_;refine aa.n0 30 (.aC 4 [.agg (gY ⟨i,0,0,[]⟩)] .bc) C (aS.aC (.one (aS.agg (.cons aM (.cons aM (.cons aM (.one aS.empty))))))) ?_;refine aa.sq ai I C C C C C C C et C C C C C C C dW (fun dA gz gk c7 dh e3 I=>?_);have rl:=rl (some (dA,gz,gk)) ⟨c7,dh,e3.trans ba⟩;simp only [kc,DS] at rl;refine bB ?_;refine aa.b9 C C C C C rl I (by simp only [jE];exact aY) ?_ (fun _ _ ⟨_,_,h,_⟩ _=>by cases h);rintro _ _ ⟨HQ,k1,⟨⟩,rfl⟩ I;rw [d7] at I ⊢;refine ht ?_;refine aa.b9 rfl rfl rfl rfl rfl (Bj HQ k1) I (aH.all _) ?_ (fun _ _ ⟨_,_,h,_⟩ _=>by cases h);rintro _ _ ⟨rm,kY,⟨⟩,rfl⟩ I;rw [d7] at I ⊢;rcases rm with _|⟨g2,xn,Xi⟩
   ·have br:fW=[]:=kY
    rw [br] at pz;cases pz
   obtain ⟨g1,g3,g4⟩:=kY;have je:=yS (k:=1) (v := .int .i64 (((([]:List b7)).length+1:Nat):Int)) (pn fW) g4 (by rw [ad2,pz];rfl) ag
   have oT:=yS (k:=2) (v := .int .i64 ((yQ.length:Nat):Int)) (fun c aA=>by
    rcases al7 aA with aA|rfl
    ·exact pn fW c aA
    ·rfl) je.2 (al2 u0) ag
   unfold jE at I ⊢;unfold kc;refine ht ?_;refine aa.fo ai (([]:List b7)).length C C C C C C C C C C ag ?_;refine dS ?_;refine aa.j8 ai I _ C C C C C C C C C a1 (by rw [g1];show (([]:List b7)).length*4+1+1≤xn*4;omega) C (fun I=>?_);refine aa.fo ai (([]:List b7)).length C C C C C C C C C C ag ?_;refine dS ?_;refine aa.j8 ai I _ C C C C C C C C C a1 (by rw [je.1,g1];show (([]:List b7)).length*4+2+1≤xn*4;omega) C (fun I=>?_);refine bB ?_;refine Fin.bz I C aM (by simp only [jE];exact aY) ⟨some (g2,xn,_),⟨oT.1.trans (je.1.trans g1),(by rw [ad'];exact g3),?_⟩,?_,rfl⟩
   ·rw [ad']
    refine oT.2.trans ?_;rw [at9,an2];rfl
   ·simp only [ad']
    try rfl
  ·obtain ⟨U,ae,an⟩:=dd
   unfold kc lg;rw [vX,HP];unfold jE at I ⊢;refine dL ?_;refine aa.qJ ai C C C C C C C ?_;refine ea ?_;refine aa.n0 30 (.aC 4 [.agg (gY ⟨i,0,0,[]⟩)] .bc) C (aS.aC (.one (aS.agg (.cons aM (.cons aM (.cons aM (.one aS.empty))))))) ?_;refine aa.sr ai I C C C C C C C et C C C C a1 U ae C C C C (by show (L.length+1)*48≤_;omega) ag (fun dA gz gk c7 dh e3 I=>?_);have rl:=rl (some (dA,gz,gk)) ⟨c7,u1,by rw [yU,DS,← an];exact e3⟩;simp only [kc,DS] at rl;refine bB ?_;refine aa.b9 C C C C C rl I (by simp only [jE];exact aY) ?_ (fun _ _ ⟨_,_,h,_⟩ _=>by cases h);rintro _ _ ⟨HQ,k1,⟨⟩,rfl⟩ I;rw [d7] at I ⊢;refine ht ?_;refine aa.b9 rfl rfl rfl rfl rfl (Bj HQ k1) I (aH.all _) ?_ (fun _ _ ⟨_,_,h,_⟩ _=>by cases h);rintro _ _ ⟨rm,kY,⟨⟩,rfl⟩ I;rw [d7] at I ⊢;rcases rm with _|⟨g2,xn,Xi⟩
   ·have br:fW=[]:=kY
    rw [br] at pz;cases pz
   obtain ⟨g1,g3,g4⟩:=kY;have je:=yS (k:=1) (v := .int .i64 (((L).length+1:Nat):Int)) (pn fW) g4 (by rw [ad2,pz];rfl) ag
   have oT:=yS (k:=2) (v := .int .i64 ((yQ.length:Nat):Int)) (fun c aA=>by
    rcases al7 aA with aA|rfl
    ·exact pn fW c aA
    ·rfl) je.2 (al2 u0) ag
   unfold jE at I ⊢;unfold kc;refine ht ?_;refine aa.fo ai (L).length C C C C C C C C C C ag ?_;refine dS ?_;refine aa.j8 ai I _ C C C C C C C C C a1 (by rw [g1];show (L).length*4+1+1≤xn*4;omega) C (fun I=>?_);refine aa.fo ai (L).length C C C C C C C C C C ag ?_;refine dS ?_;refine aa.j8 ai I _ C C C C C C C C C a1 (by rw [je.1,g1];show (L).length*4+2+1≤xn*4;omega) C (fun I=>?_);refine bB ?_;refine Fin.bz I C aM (by simp only [jE];exact aY) ⟨some (g2,xn,_),⟨oT.1.trans (je.1.trans g1),(by rw [ad'];exact g3),?_⟩,?_,rfl⟩
   ·rw [ad']
    refine oT.2.trans ?_;rw [at9,an2];rfl
   ·simp only [ad']
    try rfl
end Go.Proofs.YtnafpeohfbglmaaGreat
namespace Go.dv
theorem Nr {α:Type} {f:Nat→α→Bool}:∀ {l:List α} {k j:Nat},n8 f k l=some j→k≤j∧j<k+l.length∧∃ x,l[j-k]? = some x∧f j x=true
  | x::r,k,j,h=>by
    rw [n8] at h;split at h
    · rename_i acq aK
      cases h;obtain ⟨U,ae,y,an,bd⟩:=Nr aK;refine ⟨by omega,by rw [i8];omega,y,?_,bd⟩;rw [show j-k=(j-(k+1))+1 by omega];exact an
    · split at h
      · cases h
        rename_i aZ;exact ⟨i0 _,by rw [i8];omega,x,by rw [ao1];rfl,aZ⟩
      · cases h
theorem yV:∀ (l:List b7) (i:Nat),(ei i l).1.length=l.length∧(ei i l).2.length=l.length
  | [],i=>⟨rfl,rfl⟩
  | x::r,i=>by
    have:=yV r (i+1);rw [ei];simp only [i8];omega
def Xj (n i:Nat) (l:List b7):Prop:=∀ k,k<l.length →
 ((i:Int)+k≤(ei i l).1.getD k 0∧(ei i l).1.getD k 0<n)∧((ei i l).2.getD k default).atom=(l.getD k default).atom∧((ei i l).2.getD k default).ms=(l.getD k default).ms ∧
 (((ei i l).2.getD k default).atom≥0→(i:Int)+k<((ei i l).2.getD k default).no∧((ei i l).2.getD k default).no<n∧(i:Int)+k<((ei i l).2.getD k default).yes∧((ei i l).2.getD k default).yes<n)
theorem Ns {n:Nat}:∀ (l:List b7) (i:Nat),i+l.length=n→(∀ (k:Nat) (x:b7),l[k]? = some x→x.atom≥0→((i+k:Nat):Int)<x.no∧x.no<n∧((i+k:Nat):Int)<x.yes∧x.yes<n)→Xj n i l
  | [],_,_,_=>fun k aD=>absurd aD (al' _)
  | x::r,i,az,aZ=>by
    have a6:=Ns (n:=n) r (i+1) (by rw [i8] at az;omega) (fun k y ay=>by
      have:=aZ (k+1) y (by simpa using ay)
      rwa [show i+(k+1)=i+1+k by omega] at this)
    have aB:=yV r (i+1);rw [i8] at az;have br:=aZ 0 x C;intro k aD;cases k with
    | succ k=>
      have:=a6 k (by rw [i8] at aD;omega);rw [ei];simp only [List.getD_cons_succ];obtain ⟨⟨di,a2⟩,a3,a4,a5⟩:=this;refine ⟨⟨by push_cast at di ⊢;omega,a2⟩,a3,a4,fun h=>?_⟩;obtain ⟨hP,dA,nu,ot⟩:=a5 h;exact ⟨by push_cast at hP ⊢;omega,dA,by push_cast at nu ⊢;omega,ot⟩
    | zero=>
      have a8:x.atom≥0→(i:Int)<x.no∧x.no<n∧(i:Int)<x.yes∧x.yes<n:=fun h=>br h
      have kg:∀ m:Int,(i:Int)<m→m<n→(i:Int)<(ei (i+1) r).1.getD (m.toNat-(i+1)) 0∧(ei (i+1) r).1.getD (m.toNat-(i+1)) 0<n:=fun m U ae=>by
        have:=(a6 (m.toNat-(i+1)) ag).1;omega
      rw [ei];simp only [List.getD_cons_zero];refine ⟨?_,by split<;>rfl,by split<;>rfl,?_⟩
      · split
        · rename_i j aK
          obtain ⟨U,ae,-⟩:=Nr aK;omega
        · omega
      · split
        · rename_i h
          intro _;obtain ⟨hP,dA,nu,ot⟩:=a8 h;have c7:=kg x.no hP dA;have dh:=kg x.yes nu ot;simp only;omega
        · rename_i h
          intro ae;exact absurd ae h
theorem Nt {α:Type} (f:Nat→α→Bool) (x:α):∀ (l:List α) (k:Nat),n8 f k (l++[x])=if f (k+l.length) x then some (k+l.length) else n8 f k l
  | [],k=>by rw [d8,n8,n8];rfl
  | y::r,k=>by
    have e:k+1+r.length=k+(y::r).length:=by rw [i8];omega
    rw [ab',n8,Nt f x r (k+1),e,n8];by_cases h:f (k+(y::r).length) x=true
    · rw [f9 h,f9 h]
    · rw [d9 h,d9 h]
structure DU (g:List b7):Prop where
 pos:1≤g.length
 len:g.length≤1000
 ms:∀ x∈g,x.ms.length≤16
 fh:∀ (i:Nat) (x:b7),g[i]? = some x→x.atom≥0→(i:Int)<x.no∧x.no<g.length∧(i:Int)<x.yes∧x.yes<g.length
def iL (g:List b7) (m:Nat):List Int:=t7 m 0++(ei m (g.drop m)).1
def lh (g:List b7) (m:Nat):List b7:=g.take m++(ei m (g.drop m)).2
theorem DV (g:List b7) {m:Nat} (h:m≤g.length):(iL g m).length=g.length:=by
 unfold iL;rw [f8,ad9,(yV _ _).1,ag2];omega
theorem HR (g:List b7) {m:Nat} (h:m≤g.length):(lh g m).length=g.length:=by
 unfold lh;rw [f8,ac8,(yV _ _).2,ag2];omega
theorem HS (g:List b7) (m:Nat) (j:Nat):(iL g m).getD (m+j) 0=(ei m (g.drop m)).1.getD j 0:=by
 unfold iL;rw [d6,d6,ad5 uE,ad9,ao5]
theorem Xk (g:List b7) {m:Nat} (h:m≤g.length) (j:Nat):(lh g m)[m+j]? = (ei m (g.drop m)).2[j]?:=by
 unfold lh;rw [ad5 t',ac8,ak2 h,ao5]
theorem Xl (g:List b7) {m i:Nat} (h:i<m) (hm:m≤g.length):(lh g m)[i]? = g[i]?:=by
 unfold lh;rw [ad6 t',af',f9 h]
def qa (g:List b7) (m:Nat) (x:b7):b7:=if x.atom≥0 then { x with no:=(iL g (m+1)).getD x.no.toNat 0,yes:=(iL g (m+1)).getD x.yes.toNat 0 } else x
def sw (g:List b7) (m:Nat) (y:b7) (j:Nat) (z:b7):Bool:=(ei (m+1) (g.drop (m+1))).1.getD j 0==((m+1+j:Nat):Int)&&z==y
theorem Xm {g:List b7} (aw:DU g) {m:Nat} {x:b7} (ab:g[m]? = some x) :
  ei m (g.drop m)=((match n8 (sw g m (qa g m x)) 0 (ei (m+1) (g.drop (m+1))).2 with
   | some j=>((m+1+j:Nat):Int)
   | none=>(m:Int))::(ei (m+1) (g.drop (m+1))).1,qa g m x::(ei (m+1) (g.drop (m+1))).2):=by
 have ar:m<g.length:=(ac3.1 ab).1;have ax:g.drop m=x::g.drop (m+1):=by
  rw [aq6 ar,(ac3.1 ab).2]
 rw [ax,ei];have ay:(if x.atom≥0 then { x with no:=(ei (m+1) (g.drop (m+1))).1.getD (x.no.toNat-(m+1)) 0,yes:=(ei (m+1) (g.drop (m+1))).1.getD (x.yes.toNat-(m+1)) 0 } else x)=qa g m x:=by
  unfold qa;split
  ·rename_i h
   have:=aw.fh m x ab h;rw [← HS,← HS,show m+1+(x.no.toNat-(m+1))=x.no.toNat by omega,show m+1+(x.yes.toNat-(m+1))=x.yes.toNat by omega]
  ·rfl
 simp only [ay];rfl
theorem Xn (x y:b7):(x==y)=(decide (x.atom=y.atom)&&(decide (x.no=y.no)&&(decide (x.yes=y.yes)&&x.ms==y.ms))):=by
 obtain ⟨a,b,c,d⟩:=x;obtain ⟨da,aX,o0,c6⟩:=y;rw [ad3];simp
theorem gu {α:Type} {l:List α} {m:Nat} {x:α} (h:l[m]? = some x):l.set m x=l:=by
 apply an8;intro j;rw [ar8];split
 ·rename_i e
  subst e;have:=(ac3.1 h).1;rw [f9 this,h]
 ·rfl
theorem Nu {g:List b7} {m:Nat} {k:Int} {r:List Int} {ys:List b7} (h:ei m (g.drop m)=(k::r,ys)) (ae:(ei (m+1) (g.drop (m+1))).1=r):(iL g (m+1)).set m k=iL g m:=by
 unfold iL;rw [h,ae,am2,ae',aj1 _ _ uE,ad9,ao1];rfl
theorem Xo {g:List b7} {m:Nat} {y:b7} {r:List b7} {ks:List Int} (ar:m<g.length) (h:ei m (g.drop m)=(ks,y::r)) (ae:(ei (m+1) (g.drop (m+1))).2=r):(lh g (m+1)).set m y=lh g m:=by
 unfold lh;rw [h,ae,List.take_add_one,g6 ar,ae',aj1 _ _ t',ac8,ak2 ag,ao1];rfl
theorem HT:∀ (l:List b7) (i k:Nat) (z:b7),(ei i l).2[k]? = some z→∃ x∈l,z.ms=x.ms
  | [],i,k,z,h=>by rw [ei] at h;cases h
  | x::r,i,0,z,h=>by
    rw [ei] at h;simp only [List.getElem?_cons_zero,al8.injEq] at h;refine ⟨x,i7,?_⟩;rw [← h];split<;>rfl
  | x::r,i,k+1,z,h=>by
    rw [ei] at h;simp only [List.getElem?_cons_succ] at h;obtain ⟨y,U,ae⟩:=HT r (i+1) k z h;exact ⟨y,i5 _ U,ae⟩
theorem Xp (g:List b7) (m:Nat) (x:b7):(qa g m x).ms=x.ms:=by unfold qa;split<;>rfl
open Go.cW
def HU (es:List (af×af)):Prop:=∀ e∈es,∃ n:Int,e.1 = .int .i64 n
theorem HV {x:Int} {v:af}:∀ {es:List (af×af)},HU es→∃ dy,lO es (.int .i64 x) v=some dy∧HU dy∧∀ y:Int,jb dy (.int .i64 y)=if y=x then some (some v) else jb es (.int .i64 y)
  | [],_=>⟨[(.int .i64 x,v)],rfl,fun e he=>by rw [z2.1 he];exact ⟨x,rfl⟩,fun y=>by
    rw [jb,jb]
    by_cases h:y=x
    · subst h;simp [ke]
    · have:(y==x)=false:=by rw [beq_eq_false_iff_ne];exact h
      simp only [ke,if_true,this,d9 h];rfl⟩
  | e::r,h=>by
    obtain ⟨n,az⟩:=h e i7;obtain ⟨k,u⟩:=e;have az:k = .int .i64 n:=az;subst az;by_cases ab:n=x
    · subst ab
      refine ⟨(.int .i64 n,v)::r,by rw [lO];simp [ke],fun e he=>?_,fun y=>?_⟩
      · rcases ad1.1 he with rfl|he
        · exact ⟨n,rfl⟩
        · exact h e (i5 _ he)
      · rw [jb,jb]
        by_cases ay:y=n
        · subst ay;simp [ke]
        · have:(y==n)=false:=by rw [beq_eq_false_iff_ne];exact ay
          simp only [ke,if_true,this,d9 ay]
    · obtain ⟨dy,U,ae,an⟩:=HV (x:=x) (v:=v) (es:=r) fun e he=>h e (i5 _ he)
      have aq:(x==n)=false:=by rw [beq_eq_false_iff_ne];exact fun e=>ab e.symm
      refine ⟨(.int .i64 n,u)::dy,by rw [lO];simp only [ke,if_true,aq,U],fun e he=>?_,fun y=>?_⟩
      · rcases ad1.1 he with rfl|he
        · exact ⟨n,rfl⟩
        · exact ae e he
      · rw [jb,jb,an]
        by_cases ay:y=n
        · subst ay
          simp [ke,ab]
        · have:(y==n)=false:=by rw [beq_eq_false_iff_ne];exact ay
          simp only [ke,if_true,this]
structure qb (num:List (af×af)) (order path:List Int):Prop where
 int:HU num
 get:∀ x:Int,jb num (.int .i64 x)=some (if order.contains x then some (.int .i64 (placeOf order x)) else if path.contains x then some (.int .i64 (-1)) else none)
theorem qb.empty:qb [] [] []:=⟨fun _ h=>nQ,fun _=>rfl⟩
theorem qb.enter {num:List (af×af)} {order path:List Int} (h:qb num order path) {fh:Int} (U:order.contains fh=false) :
  ∃ vc,lO num (.int .i64 fh) (.int .i64 (-1))=some vc∧qb vc order (fh::path):=by
 obtain ⟨es,ae,an,bd⟩:=HV (x:=fh) (v := .int .i64 (-1)) h.int;refine ⟨es,ae,an,fun x=>?_⟩;rw [bd,h.get,ap2];by_cases ab:x=fh
 ·subst ab
  rw [f9 C,U];simp
 ·rw [d9 ab,show (x==fh)=false by rw [beq_eq_false_iff_ne];exact ab,ae9]
theorem Xq {order:List Int} {fh:Int} (h:order.contains fh=false):placeOf (order++[fh]) fh=(order.length:Int):=by
 unfold placeOf;have:(order++[fh]).findIdx? (· == fh)=some order.length:=by
  rw [av8];have az:order.findIdx? (· == fh)=none:=by
   rw [af8];intro x ab;rw [beq_eq_false_iff_ne];rintro rfl;rw [af7.2 ab] at h;cases h
  rw [az];simp [List.findIdx?_cons]
 rw [this];rfl
theorem Xr {order:List Int} {fh x:Int} (h:order.contains x=true):placeOf (order++[fh]) x=placeOf order x:=by
 unfold placeOf;rw [av8];cases aZ:order.findIdx? (· == x) with
 | some i=>rfl
 | none=>
  rw [af8] at aZ;have:=aZ x (af7.1 h);simp at this
theorem qb.leave {num:List (af×af)} {order path:List Int} {fh:Int} (h:qb num order (fh::path)) (U:order.contains fh=false) :
  ∃ vc,lO num (.int .i64 fh) (.int .i64 (order.length:Int))=some vc∧qb vc (order++[fh]) path:=by
 obtain ⟨es,ae,an,bd⟩:=HV (x:=fh) (v := .int .i64 (order.length:Int)) h.int;refine ⟨es,ae,an,fun x=>?_⟩;rw [bd,h.get,al0,ap2,ap2];by_cases ab:x=fh
 ·subst ab
  rw [f9 C,U,Xq U];simp
 ·rw [d9 ab,show (x==fh)=false by rw [beq_eq_false_iff_ne];exact ab,ae9,ae9]
  cases aA:order.contains x with
  | true=>rw [Xr aA];simp
  | false=>simp
theorem Xs {order:List Int} {x:Int} (h:order.contains x=false):placeOf order x=0:=by
 unfold placeOf;have az:order.findIdx? (· == x)=none:=by
  rw [af8];intro y ay;rw [beq_eq_false_iff_ne];rintro rfl;rw [af7.2 ay] at h;cases h
 rw [az];rfl
theorem Nv (order:List Int) (x:Int):0≤placeOf order x∧placeOf order x≤order.length:=by
 unfold placeOf;cases aZ:order.findIdx? (· == x) with
 | none=>exact ⟨by simp,by simp⟩
 | some i=>
  have:=(ae8.1 aZ).1;simp;omega
structure po (n:Nat) (order:List Int):Prop where
 nodup:order.Nodup
 lt:∀ x∈order,0≤x∧x<n
theorem po.len {n:Nat} {order:List Int} (h:po n order):order.length≤n:=by
 have ae:order ⊆ (ae7 n).map (fun i:Nat=>(i:Int)):=fun x ab=>by
  have:=h.lt x ab;exact ad7.2 ⟨x.toNat,ah9.2 ag,by omega⟩
 have:=List.Nodup.length_le_of_subset h.nodup ae;simpa using this
def Down (N:List b7):Prop:=∀ (i:Nat) (x:b7),N[i]? = some x→x.atom≥0→(i:Int)<x.no∧x.no<N.length∧(i:Int)<x.yes∧x.yes<N.length
theorem Nw {N:List b7} {k a:Nat} {order:List Int} {x:b7} (ab:N[a]? = some x):meet N (k+1) order a=if order.contains (a:Int) then order else (if x.atom≥0 then meet N k (meet N k order x.yes) x.no else order)++[(a:Int)]:=by
 rw [meet];simp only [ac0,d6,ab,ae1]
theorem po.snoc {n:Nat} {order:List Int} (h:po n order) {a:Nat} (a8:a<n) (az:(a:Int)∉order):po n (order++[(a:Int)]):=⟨by
 rw [am4]
 refine ⟨h.nodup,by simp,fun x ab y ay=>?_⟩
 rw [z2.1 ay]
 rintro rfl
 exact az ab,fun x ab=>by
 rcases ac9.1 ab with ab|ab
 ·exact h.lt x ab
 ·rw [z2.1 ab];omega⟩
theorem yW {N:List b7} (fb:Down N):∀ (k a:Nat),a<N.length→N.length-a≤k→∀ order:List Int,po N.length order→po N.length (meet N k order a)∧∀ y∈meet N k order a,y∈order∨(a:Int)≤y
  | 0,a,U,ae,_,_=>by omega
  | k+1,a,U,ae,order,ah=>by
    obtain ⟨x,ab⟩:∃ x,N[a]? = some x:=⟨_,g6 U⟩;rw [Nw ab];cases aA:order.contains (a:Int) with
    | true=>rw [f9 C];exact ⟨ah,fun y h => .inl h⟩
    | false=>
      rw [d9 ba];have key:po N.length (if x.atom≥0 then meet N k (meet N k order x.yes) x.no else order)∧∀ y∈(if x.atom≥0 then meet N k (meet N k order x.yes) x.no else order),y∈order∨(a:Int)<y:=by
        split
        · rename_i a8
          obtain ⟨d1,d2,d3,d4⟩:=fb a x ab a8;obtain ⟨y,ay⟩:∃ y:Nat,x.yes=y:=⟨x.yes.toNat,by omega⟩;obtain ⟨z,bO⟩:∃ z:Nat,x.no=z:=⟨x.no.toNat,by omega⟩;rw [ay,bO];obtain ⟨pc,bR⟩:=yW fb k y ag ag order ah;obtain ⟨fi,HW⟩:=yW fb k z ag ag _ pc;refine ⟨fi,fun u hu=>?_⟩;rcases HW u hu with h|h
          · rcases bR u h with h|h
            · exact .inl h
            · exact .inr ag
          · exact .inr ag
        · exact ⟨ah,fun y h => .inl h⟩
      obtain ⟨cA,db⟩:=key;refine ⟨cA.snoc U (fun hm=>?_),fun y ay=>?_⟩
      · rcases db _ hm with h|h
        · rw [af7.2 h] at aA;cases aA
        · omega
      · rcases ac9.1 ay with ay|ay
        · exact (db y ay).imp id (fun h=>by omega)
        · rw [z2.1 ay];exact .inr (ai0 _)
end Go.dv
