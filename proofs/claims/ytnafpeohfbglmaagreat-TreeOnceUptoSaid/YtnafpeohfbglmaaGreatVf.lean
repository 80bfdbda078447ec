import Derived.Test.YtnafpeohfbglmaaGreatVe
import Derived.Shelf.Sort.Plain
import Derived.KernelRfl
set_option linter.unusedVariables false
set_option linter.unusedSimpArgs false
set_option maxRecDepth 100000
set_option maxHeartbeats 4000000
open Array renaming getD_eq_getD_getElem?→ag4,getElem?_eq_some_iff→t8,length_toList→ae9,toArray_toList→ao0
open Bool renaming and_eq_true→f9,eq_iff_iff→af4,false_and→f6,false_eq_true→af6,not_false→aj3,not_true→aj',or_eq_false_iff→ak7,or_true→aq5,true_and→f5,true_or→al9
open Int renaming toNat_natCast→i9
open Go.IntKind renaming wrap→ad5
open List renaming Perm→am3,all_append→ax6,all_eq_false→aw4,any_eq_false→ak3,any_eq_true→ag5,append_assoc→af9,append_nil→d7,append_of_mem→au6,cons_append→ad',ext_getElem?→ar0,filter_cons→aj5,find?_cons→ax4,find?_eq_none→av',find?_some→ax3,findIdx?_eq_none_iff→ah',findIdx?_eq_some_iff_getElem→ah3,flatMap_append→av6,flatMap_cons→aj9,flatten_cons→as8,foldl_append→aq',foldl_cons→ah4,getD_eq_getElem?_getD→d5,getElem?_append_left→af',getElem?_append_right→af0,getElem?_eq_getElem→f7,getElem?_eq_none→am4,getElem?_eq_some_iff→t7,getElem?_map→af3,getElem?_of_mem→ag2,getElem?_set_self→am2,getElem?_set→as7,getElem?_take→ai2,getElem_mem→am9,isEmpty_iff_length_eq_zero→av1,isEmpty→aq2,length_append→f8,length_cons→i0,length_drop→ai5,length_eq_zero_iff→ax2,length_map→f0,length_mergeSort→at2,length_nil→af7,length_set→ag3,length_singleton→ag',length_take_le'→al1,length_take→ae8,map_append→ae1,map_cons→ae2,map_set→ap1,mem_append_left→ai',mem_append_right→an5,mem_append→ae4,mem_cons_of_mem→i6,mem_cons_self→i8,mem_cons→af1,mem_filter→ae3,mem_map→ag0,mem_of_find?_eq_some→at8,mem_of_getElem?→d6,mem_or_eq_of_mem_set→al0,mem_singleton→t6,nil_append→d8,nodup_append→ap5,perm_append_comm_assoc→av9,perm_append_comm→at0,perm_cons→aC3,perm_middle→an7,range_succ→as2,range→ah0,replicate→ab',set_append_right→al4,set_set→aw8,take_append_drop→ai7,take_append_of_le_length→ah6,take_left'→aq6,take_length→ae6,take_of_length_le→ag8,take_zero→al6
open Nat renaming add_comm→aq1,add_sub_cancel_left→ar',beq→af2,blt→aa',eq_of_beq_eq_true→ae0,le_refl→g9,le_succ→aA6,lt_of_lt_of_le→ak8,lt_or_ge→ar6,lt_succ_iff_lt_or_eq→ah5,mul_le_mul_right→am8,not_lt_zero→ao9,or_lt_two_pow→aj2,pow_le_pow_right→ah7,pow_lt_pow_right→ai4,sub_self→an6,succ_mul→aw6,testBit_lt_two_pow→an1,zero_add→af8,zero_le→g8
open Option renaming getD_some→ae'
open Go.Result renaming andThen_ok→i5
open Go.Sem renaming run_bind→ac',run_pure→ae5
open Go.Proofs.Tryz renaming prog→d0
namespace Go.Proofs.YtnafpeohfbglmaaGreat
theorem yO {p:Prop} (h:p:=by repeat (first|exact trivial|refine ⟨⟨_,rfl,aO⟩,?_⟩|refine ⟨⟨_,rfl,aU.of_eq (by (first|rw [iN (by omega)]|(rw [hZ aA,Hm,hH,hH];congr 1;split<;>omega)))⟩,?_⟩)):p:=h
theorem yP {p:Prop} (h:p:=by repeat (first|exact trivial|refine ⟨⟨_,rfl,aO⟩,?_⟩|refine ⟨⟨_,rfl,aU.of_eq (by (first|rfl|(rw [aE];simp [hH,aR aE])|(rw [aE];simp [hH])))⟩,?_⟩)):p:=h
theorem Nh {p:Prop} (h:p:=by repeat (first|exact trivial|refine ⟨⟨_,rfl,aO⟩,?_⟩|refine ⟨⟨_,rfl,aU.of_eq (by (rw [iN (by omega)];rfl))⟩,?_⟩)):p:=h
theorem DQ {p:Prop} (h:p:=by repeat (first|exact trivial|refine ⟨⟨_,rfl,aO⟩,?_⟩|refine ⟨⟨_,rfl,aU.of_eq (by (rw [ig]))⟩,?_⟩)):p:=h
theorem DR {p:Prop} (h:p:=by repeat (first|exact aI.all _|(apply aI.cons;· repeat (first|exact bo.here|apply bo.there)))):p:=h
theorem HH {p:Prop} (h:p:=by show (σ (bs arg path)).bn.length-(j+1)<(σ (bs arg path)).bn.length-j;omega):p:=h
theorem HI {p:Prop} (h:p:=by rw [List.take_left' (by simp),List.all_map];simp [Function.comp_def,bb,e7]):p:=h
theorem HJ {p:Prop} (h:p:=by show ej.parents.length-(k+1)<ej.parents.length-k;omega):p:=h
theorem yQ {p:Prop} (h:p:=by show p.cm.length-(j+1)<p.cm.length-j;omega):p:=h
theorem DS {p:Prop} (h:p:=by show c.bn.length-(k+1)<c.bn.length-k;omega):p:=h
theorem qb {p:Prop} (h:p:=by show l.length-(j+1)<l.length-j;omega):p:=h
theorem nM {p:Prop} (h:p:=by rw [List.length_map];omega):p:=h
theorem sk {p:Prop} (h:p:=by simpa using az):p:=h
theorem u6 {p:Prop} (h:p:=by simpa using cV):p:=h
theorem w4 {p:Prop} (h:p:=by simpa using aR):p:=h
open Go.Shelf Go.Sort Go.Proofs
def Wt:Go.Shelf.Ren:=⟨fun|189=>276|125=>290|257=>289|128=>303|129=>304|294=>294|295=>295|296=>296|297=>297|298=>298|299=>299|216=>300|300=>301|301=>302|328=>309|329=>310|330=>311|331=>312|332=>313|215=>314|343=>317|n=>n,fun|28=>23|3=>3|46=>303|0=>0|51=>329|53=>104|4=>4|183=>356|182=>355|131=>164|5=>5|9=>9|218=>363|222=>251|228=>368|229=>126|n=>n,fun n=>n⟩
theorem Wu:Lays.n189 d0 Wt where
 mixed:=by kernel_rfl
 f125 := Tryz.func290.trans (ae7 some f')
 f128 := Tryz.func303.trans (ae7 some f')
 f129 := Tryz.func304.trans (ae7 some f')
 f189 := Tryz.func276.trans (ae7 some f')
 f215 := Tryz.func314.trans (ae7 some f')
 f216 := Tryz.func300.trans (ae7 some f')
 f257 := Tryz.func289.trans (ae7 some f')
 f294 := Tryz.func294.trans (ae7 some f')
 f295 := Tryz.func295.trans (ae7 some f')
 f296 := Tryz.func296.trans (ae7 some f')
 f297 := Tryz.func297.trans (ae7 some f')
 f298 := Tryz.func298.trans (ae7 some f')
 f299 := Tryz.func299.trans (ae7 some f')
 f300 := Tryz.func301.trans (ae7 some f')
 f301 := Tryz.func302.trans (ae7 some f')
 f328 := Tryz.func309.trans (ae7 some f')
 f329 := Tryz.func310.trans (ae7 some f')
 f330 := Tryz.func311.trans (ae7 some f')
 f331 := Tryz.func312.trans (ae7 some f')
 f332 := Tryz.func313.trans (ae7 some f')
 f343 := Tryz.func317.trans (ae7 some f')
 t0 := Tryz.underlying0
 a0 := Tryz.isAgg0
 z0 := Tryz.sizeOf0
 v0 := Tryz.zeroValue0
 t3 := Tryz.underlying3
 a3 := Tryz.isAgg3
 z3 := Tryz.sizeOf3
 v3 := Tryz.zeroValue3
 t4 := Tryz.underlying4
 a4 := Tryz.isAgg4
 z4 := Tryz.sizeOf4
 v4 := Tryz.zeroValue4
 t5 := Tryz.underlying5
 a5 := Tryz.isAgg5
 z5 := Tryz.sizeOf5
 v5 := Tryz.zeroValue5
 t9 := Tryz.underlying9
 a9 := Tryz.isAgg9
 z9 := Tryz.sizeOf9
 v9 := Tryz.zeroValue9
 t28 := Tryz.underlying23
 a28 := Tryz.isAgg23
 z28 := Tryz.sizeOf23
 v28 := Tryz.zeroValue23
 t46 := Tryz.underlying303
 a46 := Tryz.isAgg303
 z46 := Tryz.sizeOf303
 v46 := Tryz.zeroValue303
 t51 := Tryz.underlying329
 a51 := Tryz.isAgg329
 z51 := Tryz.sizeOf329
 v51 := Tryz.zeroValue329
 t53 := Tryz.underlying104
 a53 := Tryz.isAgg104
 z53 := Tryz.sizeOf104
 v53 := Tryz.zeroValue104
 t131 := Tryz.underlying164
 a131 := Tryz.isAgg164
 z131 := Tryz.sizeOf164
 v131 := Tryz.zeroValue164
 t182 := Tryz.underlying355
 a182 := Tryz.isAgg355
 z182 := Tryz.sizeOf355
 v182 := Tryz.zeroValue355
 t183 := Tryz.underlying356
 a183 := Tryz.isAgg356
 z183 := Tryz.sizeOf356
 v183 := Tryz.zeroValue356
 t218 := Tryz.underlying363
 a218 := Tryz.isAgg363
 z218 := Tryz.sizeOf363
 v218 := Tryz.zeroValue363
 t222 := Tryz.underlying251
 a222 := Tryz.isAgg251
 z222 := Tryz.sizeOf251
 v222 := Tryz.zeroValue251
 t228 := Tryz.underlying368
 a228 := Tryz.isAgg368
 z228 := Tryz.sizeOf368
 v228 := Tryz.zeroValue368
 t229 := Tryz.underlying126
 a229 := Tryz.isAgg126
 z229 := Tryz.sizeOf126
 v229 := Tryz.zeroValue126
theorem Wv (r4 off cap:Nat) (aZ:List Int) (w:World) (GJ:Holds (Value.int .i64) w r4 off aZ.toArray) (Ww:r4<w.heap.size) (b':aZ.length<4611686018427387904) :
  Calls d0 276 #[.slice (some ⟨r4,off,none⟩) aZ.length cap] w fun e w'=>
   e = .returned (.tuple #[])∧∃ n os,w'=grow (putRow (Value.int .i64) (Sort.ahead w n) r4 off (aZ.mergeSort fun x y=>decide (x≤y)).toArray) os:=
 Any.slices_Sort_int Wu r4 off cap aZ w GJ Ww b'
theorem Wx (w:World) (p:bU) (v:Value) (a:Int) (h:Rel w p v (.int .i64 a)):v = .int .i64 a:=by cases h;rfl
theorem HK (b cap:Nat) (l:List Int) (rest:List af) (aE:l.length<4611686018427387904) :
  bF d0 276 [eh b l.length cap] [(.own b,.box 3 (l.map bb++rest))] (fun o K=>o = .ret (.cu [])∧K=[(.own b,.box 3 ((l.mergeSort fun x y=>decide (x≤y)).map bb++rest))]):=
 bF.sort (α:=Int) (enc:=Value.int .i64) (encA:=bb) (le:=fun x y=>decide (x≤y)) call276 Wx (fun w p a => .int _ _) Wv b cap l rest aE
theorem bo.Ni {L:a8} {k:bQ} {o:dC} {a b:a8} (h:L=a++(k,o)::b):bo L k o (a++b):=by
 subst h;exact bo.app a .here
theorem aI.ik:∀ {K L:a8},L.Perm K→aI L K []
  | [],L,h=>by
    have:L=[]:=h.eq_nil;subst this;exact .nil
  | (k,o)::K,L,h=>by
    obtain ⟨a,b,iE⟩:=au6 (h.symm.subset i8);refine .cons (bo.Ni iE) (aI.ik ?_);rw [iE] at h;exact (aC3 _).1 (an7.symm.trans h)
theorem Nj (s:al) (L:a8):∀ (sl:a8),(∀ x∈sl,x.1 = .nil)→aS s (sl++L)=aS s L∧(Ok s L→Ok s (sl++L))
  | [],_=>⟨rfl,id⟩
  | (k,o)::sl,h=>by
    have aA:k = .nil:=h (k,o) i8;subst aA;obtain ⟨U,ad⟩:=Nj s L sl fun x ab=>h x (i6 _ ab)
    exact ⟨U,fun I=>⟨trivial,ad I⟩⟩
theorem bF.frame {P:Program} {f:FuncId} {args:List af} {K L R:a8} {aem D:ey→a8→Prop} (h:bF P f args K aem) (ar:aI L K R) (e4:∀ o aP,aem o aP→∃ sl M,(∀ x∈sl,x.1 = .nil)∧(sl++(aP++R)).Perm M∧D o M):bF P f args L D:=
 fun s I=>(h.at I ar).mono fun o ak ⟨U6,e,yA,aP,G8,G9⟩=>by
  subst G8;obtain ⟨sl,M,Wy,aD,dP⟩:=e4 o aP G9;obtain ⟨jI,u5⟩:=Nj s (aP++R) sl Wy;obtain ⟨U,ad⟩:=(aI.ik aD).perm (u5 yA);rw [d7] at U ad;exact ⟨M,e.trans (jI.symm.trans U),ad,dP⟩
abbrev rk:=Option (Nat×Nat×List af)
def k7:rk→List Int→af
 | none,_ => .aB 0 [] .nil
 | some (g,cap,_),l=>eh g l.length cap
def j1:rk→List Int→a8
 | none,_=>[]
 | some (g,_,dZ),l=>[(.own g,.box 3 (l.map bb++dZ))]
def sm:rk→List Int→Prop
 | none,l=>l=[]
 | some (_,cap,dZ),l=>l.length+dZ.length=cap
structure fT where
 sp:List Int
 b:Nat
 on:bQ
 bC:rk
def iG (σ:dW) (e:fT):a8:=pr e.b (σ e.sp) e.on (k7 e.bC (σ e.sp).bn)++j1 e.bC (σ e.sp).bn
def nb (es:List fT):SMap:=es.map fun e=>(e.sp,.ptr e.b 0)
def l4 (σ:dW) (mb:Nat) (es:List fT):a8:=rj mb (nb es)::es.flatMap (iG σ)
structure mG (n:Nat) (k:dp):Prop where
 fS:k.fS<2^64
 no:k.no<2^64
 e2:k.e2.length≤n
 bn:k.bn.length≤n
 num : -1000000000≤k.low∧k.low≤1000000000 ∧ -1000000001≤k.high∧k.high≤1000000000
structure pt (n:Nat) (σ:dW) (es:List fT):Prop where
 four:∀ e∈es,e.sp.length=4
 nodup:(es.map fT.sp).Nodup
 rest:∀ q,q∉es.map fT.sp→σ q=iU
 bC:∀ e∈es,sm e.bC (σ e.sp).bn
 mH:∀ q,mG n (σ q)
theorem Wz {es:List fT} {sp:List Int}:(nb es).find? (fun e=>e.1==sp)=none↔sp∉es.map fT.sp:=by
 unfold nb;rw [av'];constructor
 ·intro h hm
  obtain ⟨e,he,rfl⟩:=ag0.1 hm;have:=h _ (ag0.2 ⟨e,he,rfl⟩);simp at this
 ·intro h x ab
  obtain ⟨e,he,rfl⟩:=ag0.1 ab;simp only [am7];intro b1;exact h (ag0.2 ⟨e,he,b1⟩)
theorem WA {es:List fT} {sp:List Int} {x:List Int×af} (h:(nb es).find? (fun e=>e.1==sp)=some x):∃ e∈es,e.sp=sp∧x=(e.sp,.ptr e.b 0):=by
 unfold nb at h;have U:=at8 h;have ad:=ax3 h;obtain ⟨e,he,rfl⟩:=ag0.1 U;exact ⟨e,he,by simpa using ad,rfl⟩
theorem WB (n:Nat):mG n iU:=⟨by decide,by decide,by simp [iU],by simp [iU],by simp [iU]⟩
theorem Nk (w:bx) (mb n:Nat) (σ:dW) (es:List fT) (cI:pt n σ es) (hI dT dh dJ:Int) :
    bF d0 280 [h2 w mb,iF [hI,dT,dh,dJ]] (l4 σ mb es) (fun o K=>∃ pre e post,e.sp=[hI,dT,dh,dJ]∧o = .ret (.ptr e.b 0)∧K=l4 σ mb (pre++e::post)∧pt n σ (pre++e::post)):=by
  have h:=Nc (.aB 1 [] .nil) (.aB 0 [] .nil) (aU.nil hk) aO w mb (nb es) (fun e he=>by
    unfold nb at he
    obtain ⟨x,ab,rfl⟩:=ag0.1 he
    exact cI.four x ab) hI dT dh dJ
  refine bF.frame h (R:=es.flatMap (iG σ)) (.cons .here .nil) ?_;rintro o aP (⟨x,ab,rfl,rfl⟩|⟨a7,b,rfl,rfl⟩)
  · obtain ⟨e,he,U,rfl⟩:=WA ab
    obtain ⟨pre,post,rfl⟩:=au6 he;exact ⟨[],_,by simp,am3.refl _,pre,e,post,U,rfl,rfl,cI⟩
  · have h4:=Wz.1 a7
    have A5:=cI.rest _ h4;refine ⟨[(.nil,.row 3 1 0)],l4 σ mb (es++[⟨[hI,dT,dh,dJ],b,.nil,none⟩]),by simp,?_,es,⟨[hI,dT,dh,dJ],b,.nil,none⟩,[],rfl,rfl,rfl,?_⟩
    · have cd:iG σ ⟨[hI,dT,dh,dJ],b,.nil,none⟩=[(.own b,.box 340 Nb),(.nil,.row 3 1 0)]:=by
        unfold iG;rw [A5];rfl
      unfold l4;rw [av6,List.flatMap_singleton,cd];have b1:nb (es++[⟨[hI,dT,dh,dJ],b,.nil,none⟩])=nb es++[([hI,dT,dh,dJ],.ptr b 0)]:=by unfold nb;rw [ae1];rfl
      rw [b1];refine (am3.swap _ _ _).trans (am3.cons _ ((am3.swap _ _ _).trans ?_));exact at0 (l₁:=[(.own b,.box 340 Nb),(.nil,.row 3 1 0)]) (l₂:=es.flatMap (iG σ))
    · refine ⟨fun e he=>?_,?_,fun q bk=>cI.rest q (fun hm=>bk (by rw [ae1];exact ai' _ hm)),fun e he=>?_,cI.mH⟩
      · rcases ae4.1 he with he|he
        · exact cI.four e he
        · rw [t6] at he;subst he;rfl
      · rw [ae1,ap5]
        refine ⟨cI.nodup,by simp,fun a aR b an=>?_⟩;rw [List.map_singleton,t6] at an;subst an;intro e;subst e;exact h4 aR
      · rcases ae4.1 he with he|he
        · exact cI.bC e he
        · rw [t6] at he;subst he
          show (σ _).bn=[];rw [A5];rfl
def u7 (g:Nat) (l:List Int) (dZ:List af):a8:=[(.own g,.box 3 (l.map bb++dZ))]
theorem WC (g cap:Nat) (l:List Int) (dZ:List af) (n:Int) (aE:l.length<bB):bF d0 92 [eh g l.length cap,.int .i64 n] (u7 g l dZ) (fun o K=>o = .ret (.int .i64 (match l.findIdx? (· == n) with
  | some i=>(i:Int)
  | none => -1))∧K=u7 g l dZ):=by
 have an:=bG;refine bF.bl ai Tryz.func92 C C fun s I=>?_
 unfold u7 at I ⊢;refine dF ?_;refine aa.q1 ai C C C C C C C ?_;refine dL ?_;refine ae.b9 [0,1,7] C I (σ:=Nat) (fun j=>[(8,.int .i64 (j:Int))]) (fun _=>u7 g l dZ) (fun j=>j≤l.length∧∀ i,i<j→l[i]? ≠ some n) (fun j=>l.length-j) 0 ⟨g8 _,fun i aN=>absurd aN (ao9 _)⟩ (cz C) (aI.all _) ?_;rintro j ⟨aH,aq⟩ I;unfold u7 at I ⊢;refine b8 ?_;refine ae.cond C (fun aw=>?_) (fun aY=>?_);rotate_left
 ·have aY:j=l.length:=by simp at aY;omega
  have ab:l.findIdx? (· == n)=none:=by
   rw [ah'];intro z bE;obtain ⟨i,aN⟩:=ag2 bE;have U:=oe aN;have ad:=aq i ag;simp only [beq_eq_false_iff_ne];intro e;subst e;exact ad aN
  rw [ab];refine ef ?_;exact Fin.bt I C aO (aI.all _) ⟨rfl,rfl⟩
 have aw:j<l.length:=by simpa using aw
 obtain ⟨y,ax⟩:∃ y,l[j]? = some y:=⟨_,f7 aw⟩;have c7:(l.map bb++dZ)[j]? = some (.int .i64 y):=by
  rw [af' (by simpa using aw)];simp [ax,bb]
 refine bD ?_;refine aa.fc ai j C C C C C C C C C C aw ?_;refine aa.jY ai I C C C C C C aZ C (by show (l.map bb++dZ)[j*1]? = _;rw [Nat.mul_one];exact c7) ?_;refine fK ?_;refine ae.cond C (fun az=>?_) (fun az=>?_)
 ·have az:n=y:=by simpa using az
  subst az;have ab:l.findIdx? (· == n)=some j:=by
   rw [ah3];refine ⟨aw,by simpa using (t7.1 ax).2,fun i aN=>?_⟩;have:=aq i aN;rw [f7 ag] at this;simpa using this
  rw [ab];refine js ?_;exact Fin.bt I C aO (aI.all _) ⟨rfl,rfl⟩
 ·have az:n≠y:=by simpa using az
  refine gr ?_;refine bp.mk (j+1) I ⟨aw,fun i aN=>?_⟩ ck (aI.all _) qb;rcases ah5.1 aN with aN|rfl
  ·exact aq i aN
  ·rw [ax];intro e;cases e;exact az C
theorem Nl (g cap:Nat) (l:List Int) (dZ:List af) (n:Int) (aE:l.length<bB):bF d0 43 [eh g l.length cap,.int .i64 n] (u7 g l dZ) (fun o K=>o = .ret (.bool (l.contains n))∧K=u7 g l dZ):=by
 rw [← LJ];have h:=WC g cap l dZ n aE;refine bF.bl ai Tryz.func43 C C fun s I=>?_
 refine dF ?_;refine aa.b7 rfl rfl rfl rfl rfl h I (aI.all _) ?_ (fun _ _ ⟨h,_⟩ _=>by cases h);rintro _ _ ⟨⟨⟩,rfl⟩ I;rw [d7] at I ⊢;refine eA ?_;exact Fin.bt I C aO (aI.all _) ⟨rfl,rfl⟩
theorem WD (bC:rk) (l:List Int) (n:Int) (ar:sm bC l) (aE:l.length<bB):bF d0 43 [k7 bC l,.int .i64 n] (j1 bC l) (fun o K=>o = .ret (.bool (l.contains n))∧K=j1 bC l):=by
 cases bC with
 | none=>
  have:l=[]:=ar;subst this;have h:=yw [] n ec;unfold bg at h;have h:=aV.args (show cR [.aB 0 [] .nil,.int .i64 n] [.aB 1 ([].map bb) .bc,.int .i64 n] from .cons aU.empty (.one aO)) h;exact fun s _=>hh.mono (h s) (fun o ak ⟨U,ad⟩=>⟨[],ad,trivial,U,rfl⟩)
 | some x=>
  obtain ⟨g,cap,dZ⟩:=x;exact Nl g cap l dZ n aE
def yR (σ:dW) (mb:Nat) (pre:List fT) (e:fT) (post:List fT):a8:=rj mb (nb (pre++e::post))::(pre.flatMap (iG σ)++post.flatMap (iG σ))
theorem DT (σ:dW) (mb:Nat) (pre:List fT) (e:fT) (post:List fT):(l4 σ mb (pre++e::post)).Perm (iG σ e++yR σ mb pre e post):=by
 unfold l4 yR;rw [av6,aj9];refine (am3.cons _ ?_).trans an7.symm;exact av9 _ _ _
theorem WE {σ σ':dW} {mb:Nat} {pre:List fT} {e e':fT} {post:List fT} (dz:e'.sp=e.sp) (an:e'.b=e.b) (ar:∀ x∈pre++post,σ' x.sp=σ x.sp):(iG σ' e'++yR σ mb pre e post).Perm (l4 σ' mb (pre++e'::post)):=by
 have U:nb (pre++e'::post)=nb (pre++e::post):=by unfold nb;simp [dz,an]
 have ad:∀ l:List fT,(∀ x∈l,σ' x.sp=σ x.sp)→l.flatMap (iG σ')=l.flatMap (iG σ):=fun l aE=>by
  induction l with
  | nil=>rfl
  | cons x r aX=>
   rw [aj9,aj9,aX (fun y ax=>aE y (i6 _ ax))];unfold iG;rw [aE x i8]
 refine am3.trans ?_ (DT σ' mb pre e' post).symm;unfold yR;rw [U,ad pre (fun x ab=>ar x (ai' _ ab)),ad post (fun x ab=>ar x (an5 _ ab))]
theorem pt.apart {n:Nat} {σ:dW} {pre:List fT} {e:fT} {post:List fT} (h:pt n σ (pre++e::post)):∀ x∈pre++post,x.sp≠e.sp:=by
 have az:=h.nodup;rw [ae1,ae2,ap5] at az;obtain ⟨U,ad,aj⟩:=az;intro x ab b1;rcases ae4.1 ab with ab|ab
 ·exact aj x.sp (ag0.2 ⟨x,ab,rfl⟩) e.sp i8 b1
 ·rw [List.nodup_cons] at ad
  exact ad.1 (ag0.2 ⟨x,ab,b1⟩)
theorem pt.hT {n m:Nat} {σ:dW} {pre:List fT} {e e':fT} {post:List fT} (h:pt n σ (pre++e::post)) (dz:e'.sp=e.sp) (adl:n≤m) {k:dp} (aA:mG m k) (df:sm e'.bC k.bn):pt m (σ.hT e.sp k) (pre++e'::post):=by
 have aR:=h.apart;have hm:(pre++e'::post).map fT.sp=(pre++e::post).map fT.sp:=by simp [dz]
 refine ⟨fun x ab=>?_,by rw [hm];exact h.nodup,fun q bk=>?_,fun x ab=>?_,fun q=>?_⟩
 ·rcases ae4.1 ab with ab|ab
  ·exact h.four x (ai' _ ab)
  ·rcases af1.1 ab with rfl|ab
   ·rw [dz];exact h.four e ba
   ·exact h.four x (by simp [ab])
 ·rw [hm] at bk
  unfold dW.hT;rw [d9 (fun b1=>bk (by rw [b1];simp))];exact h.rest q bk
 ·by_cases DU:x=e'
  ·subst DU
   unfold dW.hT;rw [g6 dz];exact df
  ·have ab:x∈pre++post:=by
    rcases ae4.1 ab with ab|ab
    ·exact ai' _ ab
    ·rcases af1.1 ab with rfl|ab
     ·exact absurd C DU
     ·exact an5 _ ab
   unfold dW.hT;rw [d9 (aR x ab)];exact h.bC x (by rcases ae4.1 ab with ab|ab<;>simp [ab])
 ·unfold dW.hT
  split
  ·exact aA
  ·obtain ⟨dN,a2,a3,a4,a5⟩:=h.mH q
   exact ⟨dN,a2,by omega,by omega,a5⟩
theorem bo.HL {L R:a8} {k:bQ} {o:dC} (h:bo L k o R):L.Perm ((k,o)::R):=by
 induction h with
 | here=>exact .refl _
 | there _ aX=>exact (am3.cons _ aX).trans (am3.swap _ _ _)
theorem aI.HL {L K R:a8} (h:aI L K R):L.Perm (K++R):=by
 induction h with
 | nil=>exact .refl _
 | cons h t aX=>exact h.HL.trans (am3.cons _ aX)
theorem aI.WG {L A B:a8} (h:aI L A []) (p:A.Perm B):aI L B []:=aI.ik ((by have:=h.HL;rw [d7] at this;exact this:L.Perm A).trans p)
theorem WH (arg:Int) (path:List Int) (j:Nat) (bC:Int) (aH:path[j]? = some bC) (ad:j<2) :
  aV d0 281 [iF (bs arg (path.take j)),.int .i64 bC] (iF (bs arg (path.take (j+1)))):=by
 match path,j,aH,ad with
 | a::r,0,aH,_=>
  have:a=bC:=by simpa using aH
  subst this;exact Nd arg 0 0 a
 | a::b::r,1,aH,_=>
  have:b=bC:=by simpa using aH
  subst this;exact Nf arg a 0 b
theorem WI {σ:dW} {e e':fT} {k:dp} (h:e'.sp=e.sp):iG (σ.hT e.sp k) e'=pr e'.b k e'.on (k7 e'.bC k.bn)++j1 e'.bC k.bn:=by
 unfold iG dW.hT;rw [g6 h]
theorem WJ (bC:rk) (l:List Int):e7 (k7 bC l)=true:=by
 cases bC with
 | none=>rfl
 | some x=>rfl
theorem WK (arg:Int):bs arg []=[arg,0,0,0]:=rfl
def kI (bS:Nat) (sp:List Int) (σ:dW) (mb:Nat) (pre:List fT) (e:fT) (post:List fT) (kb:Nat) (k:dp) (on:bQ) (bC:rk):a8:=
 (.own bS,.box 319 (sp.map (af.int .i64)))::(.own kb,.box 340 (kH k (.aB 1 (k.e2.map bb) on) (k7 bC k.bn)))::(on,.row 3 1 k.e2.length)::(j1 bC k.bn++yR σ mb pre e post)
theorem Nn (bS:Nat) (sp:List Int) (σ:dW) (mb:Nat) (pre:List fT) (e:fT) (post:List fT):(l4 σ mb (pre++e::post)++[((bQ.own bS,dC.box 319 (sp.map (af.int .i64))):bQ×dC)]).Perm (kI bS sp σ mb pre e post e.b (σ e.sp) e.on e.bC):=
 (at0.trans (am3.cons _ (DT σ mb pre e post)))
theorem DV {bS:Nat} {sp:List Int} {σ:dW} {mb n:Nat} {pre:List fT} {e:fT} {post:List fT} (cI:pt n σ (pre++e::post)) (k:dp) (on:bQ) (bC:rk):(kI bS sp σ mb pre e post e.b k on bC).Perm ((.own bS,.box 319 (sp.map (af.int .i64)))::l4 (σ.hT e.sp k) mb (pre++⟨e.sp,e.b,on,bC⟩::post)):=by
 refine am3.cons _ ?_;have h:=WE (σ:=σ) (σ':=σ.hT e.sp k) (mb:=mb) (pre:=pre) (e:=e) (e':=⟨e.sp,e.b,on,bC⟩) (post:=post) C C (fun x ab=>by unfold dW.hT;rw [d9 (cI.apart x ab)]);rw [WI (e:=e) (e':=⟨e.sp,e.b,on,bC⟩) C] at h;exact h
theorem mG.mono {n m:Nat} (h:n≤m) {k:dp} (aA:mG n k):mG m k:=⟨aA.fS,aA.no,by have:=aA.e2;omega,by have:=aA.bn;omega,aA.num⟩
theorem WL (s:Int) (l:List Int):(m8 s l).length≤l.length+1:=by
 unfold m8;split
 ·omega
 ·rw [at2];simp
theorem aI.WM {L A B:a8} (h:L.Perm (A++B)):∃ R,aI L A R:=by
 induction A generalizing L with
 | nil=>exact ⟨L,.nil⟩
 | cons x A aX=>
  obtain ⟨k,o⟩:=x;obtain ⟨a,b,iE⟩:=au6 (h.symm.subset (ai' _ i8));rw [iE] at h;have ad:(a++b).Perm (A++B):=(aC3 _).1 (an7.symm.trans h);obtain ⟨R,dB⟩:=aX ad;exact ⟨R,.cons (bo.Ni iE) dB⟩
theorem mG.need {n:Nat} {k:dp} (h:mG n k) (neg:Bool):mG n (k.need neg):=⟨h.fS,h.no,h.e2,h.bn,h.num⟩
theorem mG.slot {n:Nat} {k:dp} (h:mG n k) (s:Int):mG (n+1) (k.slot s):=⟨h.fS,h.no,by have:=h.e2;show k.e2.length≤_;omega,by have:=h.bn;have:=WL s k.bn;show (m8 s k.bn).length≤_;omega,h.num⟩
theorem mG.ask {n:Nat} {k:dp} (h:mG n k) {w:bx} (hw:w.ps.length≤60) {x:cb} (ab:tJ w x):mG (n+1) (k.ask x):=by
 have iL:=yL.of ab.node ab.leaf;have ot:=ab.num;obtain ⟨U,ad,aj,a',bz⟩:=h;unfold dp.ask;split
 ·rename_i bY
  have aF:=iL.cls bY;have aD:2^x.1.cls.toNat<2^64:=ai4 ag ag;split
  ·exact ⟨U,aj2 ad aD,by simp only;omega,by simp only;omega,bz⟩
  ·exact ⟨aj2 U aD,ad,by simp only;omega,by simp only;omega,bz⟩
 ·split
  ·split
   ·exact ⟨U,ad,by simp only;omega,by simp only;omega,by simp only;omega⟩
   ·exact ⟨U,ad,by simp only;omega,by simp only;omega,by simp only;omega⟩
  ·split
   ·exact ⟨U,ad,by simp only [f8,ag'];omega,by simp only;omega,bz⟩
   ·exact ⟨U,ad,by simp only;omega,by simp only;omega,by simp only;omega⟩
theorem No (k:dp) (x:cb):(k.ask x).bn=k.bn:=by
 unfold dp.ask;split
 ·split<;>rfl
 ·split
  ·split<;>rfl
  ·split<;>rfl
theorem WN (w:bx) (hw:w.ps.length≤60) (mb n:Nat) (σ:dW) (es:List fT) (cI:pt n σ es) (az:n+3<bB) (x:cb) (ab:tJ w x) :
  bF d0 269 [h2 w mb,h1 x] (l4 σ mb es) (fun o K=>o = .ret (.cu [])∧∃ du,K=l4 (addLit σ x) mb du∧pt (n+3) (addLit σ x) du):=by
 have an:=bG;have iL:=yL.of ab.node ab.leaf;have HM:=Nk w mb n σ es cI x.1.arg 0 0 0;obtain ⟨f,neg⟩:=x;simp only at iL HM;have gH:=iL.path;refine bF.bl ai Tryz.func269 C C fun s I=>?_
 unfold h2 at HM;unfold h1 p6 ao.cells;unfold h2
 repeat (first|(refine Lu I ?_;clear I;intro I)|refine aa.dK ai I rfl rfl rfl rfl rfl rfl rfl (fun cA I=>?_))
 refine aa.b7 rfl rfl rfl rfl rfl HM I (aI.all _).there ?_ (fun _ _ ⟨_,_,_,_,h,_⟩ _=>by cases h);rintro _ _ ⟨pre,e,post,dz,⟨⟩,rfl,cI⟩ I;refine aa.run ai C (aa.nil ?_);refine b4 ?_;refine ae.mv I (kI cA (bs f.arg []) σ mb pre e post e.b (σ e.sp) e.on e.bC) (aI.ik (Nn cA (bs f.arg []) σ mb pre e post)) (fun aA=>?_);revert aA
 repeat clear I
 intro I;refine ae.TZ (σ:=Unit) (fun _=>[(0,h2 w mb),(3,.br (p6 (f,neg)) 0),(4,.ptr cA 0),(5,.ptr e.b 0) ]) (fun _=>kI cA (bs f.arg []) σ mb pre e post e.b ((σ e.sp).need neg) e.on e.bC) (fun _=>True) ?_ ?_
 ·unfold kI kH dp.need
  unfold kI kH at I;cases eM:(σ e.sp).gv<;>rw [eM] at I<;>cases neg
  all_goals
   refine cv I ?_;intro I;exact lY.mk () I trivial (cz C) DR
 rintro _-I;refine gy ?_;refine ae.b9 [0,3,4,29,30] C I (σ:=Nat×List fT×fT×List fT) (fun q=>[(31,.int .i64 (q.1:Int)),(5,.ptr q.2.2.1.b 0)]) (fun q=>(.own cA,.box 319 ((bs f.arg (f.path.take q.1)).map (af.int .i64)))::l4 (gX neg f.arg f.path q.1 σ) mb (q.2.1++q.2.2.1::q.2.2.2))
  (fun q=>q.1≤f.path.length∧q.2.2.1.sp=bs f.arg (f.path.take q.1)∧pt (n+q.1) (gX neg f.arg f.path q.1 σ) (q.2.1++q.2.2.1::q.2.2.2)) (fun q=>f.path.length-q.1) (0,pre,e,post) ⟨g8 _,dz,?_⟩ (cz C) (aI.ik ?_) ?_
 ·have:=cI.hT (e':=e) C (g9 _) ((cI.mH e.sp).need neg) (cI.bC e ba)
  rw [dz] at this;exact this
 ·have bu:gX neg f.arg f.path 0 σ=σ.hT e.sp ((σ e.sp).need neg):=by rw [gX,WK,dz]
  show am3 _ (((bQ.own cA,dC.box 319 ((bs f.arg []).map (af.int .i64))):bQ×dC)::l4 (gX neg f.arg f.path 0 σ) mb (pre++e::post));rw [bu];exact DV (mb:=mb) (bS:=cA) (sp:=bs f.arg []) cI ((σ e.sp).need neg) e.on e.bC
 rintro ⟨j,pre,e,post⟩ ⟨aH,dz,cI⟩ I;simp only at aH dz cI I ⊢;generalize cc:gX neg f.arg f.path j σ=S at cI I ⊢;have aA:=cI.mH e.sp;refine b8 ?_;refine ae.cond C (fun aw=>?_) (fun aY=>?_);rotate_left
 ·have aY:j=f.path.length:=by simp at aY;omega
  subst aY;rw [ae6] at dz I ⊢;have aC:addLit σ (f,neg)=S.hT e.sp ((S e.sp).ask (f,neg)):=by
   unfold addLit;simp only;rw [cc,dz]
  have Np:=Ws w hw e.b (S e.sp) ⟨aA.fS,aA.no,by have:=aA.e2;omega⟩ aA.num e.on (k7 e.bC (S e.sp).bn) (WJ _ _) (f,neg) ab;refine ae.mv I (kI cA (bs f.arg f.path) S mb pre e post e.b (S e.sp) e.on e.bC) (aI.ik (am3.cons _ (DT S mb pre e post))) (fun aA=>?_);revert aA
  repeat clear I
  intro I;unfold h1 p6 ao.cells at Np;unfold kI at I ⊢;refine bD ?_;refine aa.b7 rfl rfl rfl rfl rfl Np I (.cons (.there .here) (.cons (.there .here) .nil)) ?_ (fun _ _ ⟨h,_⟩ _=>by cases h);rintro _ _ ⟨⟨⟩,w3,rfl⟩ I;refine fK ?_;have qw:=DV (mb:=mb) (bS:=cA) (sp:=bs f.arg f.path) cI ((S e.sp).ask (f,neg)) w3 e.bC;rw [← aC] at qw;unfold kI at qw;rw [No] at qw;have Bg:(pr e.b ((S e.sp).ask (f,neg)) w3 (k7 e.bC (S e.sp).bn)++((.own cA,.box 319 ((bs f.arg f.path).map (af.int .i64)))::(j1 e.bC (S e.sp).bn++yR S mb pre e post))).Perm (l4 (addLit σ (f,neg)) mb (pre++⟨e.sp,e.b,w3,e.bC⟩::post)++[(.own cA,.box 319 ((bs f.arg f.path).map (af.int .i64)))]):=by
   refine am3.trans ?_ ((qw.trans ?_))
   ·exact an7 (l₁:=pr e.b ((S e.sp).ask (f,neg)) w3 (k7 e.bC (S e.sp).bn))
   ·exact at0 (l₁:=[((bQ.own cA,dC.box 319 ((bs f.arg f.path).map (af.int .i64))):bQ×dC)])
  obtain ⟨dt,HN⟩:=aI.WM Bg;refine Fin.bt I C aO HN ⟨rfl,_,rfl,?_⟩;rw [aC];refine cI.hT (e':=⟨e.sp,e.b,w3,e.bC⟩) C ag ((aA.ask hw ab).mono ag) ?_;rw [No];exact cI.bC e ba
 have aw:j<f.path.length:=by simpa using aw
 obtain ⟨bC,ax,c7⟩:=b5 (f:=fun i=>af.int .i64 i) aw;have kY:f.path.getD j 0=bC:=by rw [d5,ax];rfl
 have w5:=cI.bC e ba;have kD:=WH f.arg f.path j bC ax ag;have n3:=aA.bn;refine ae.mv I (kI cA (bs f.arg (f.path.take j)) S mb pre e post e.b (S e.sp) e.on e.bC) (aI.ik (am3.cons _ (DT S mb pre e post))) (fun aA=>?_);revert aA
 repeat clear I
 intro I;unfold kI kH at I ⊢;refine cv I ?_;intro I;refine aa.b7 rfl rfl rfl rfl rfl (WD e.bC (S e.sp).bn bC w5 ag) I (aI.jt (aI.all _)).there.there.there ?_ (fun _ _ ⟨h,_⟩ _=>by cases h);rintro _ _ ⟨⟨⟩,rfl⟩ I;refine aa.mv I (kI cA (bs f.arg (f.path.take j)) S mb pre e post e.b (S e.sp) e.on e.bC) (aI.ik ((an7 (l₁:=j1 e.bC (S e.sp).bn)).trans (.cons _ ((an7 (l₁:=j1 e.bC (S e.sp).bn)).trans (.cons _ ((an7 (l₁:=j1 e.bC (S e.sp).bn)).trans (.refl _))))))) (fun aA=>?_);revert aA
 repeat clear I
 intro I;refine aa.run ai C (aa.nil ?_);refine b4 ?_;refine ae.yp (σ:=rk) (fun _=>[(0,h2 w mb),(3,.br (p6 (f,neg)) 0),(4,.ptr cA 0),(5,.ptr e.b 0),(7,.int .i64 bC),(29,.aB 1 (f.path.map fun i => .int .i64 i) .bc),(30,.int .i64 ((f.path.map fun i=>af.int .i64 i).length:Int)),(31,.int .i64 (j:Int))]) (fun rl=>kI cA (bs f.arg (f.path.take j)) S mb pre e post e.b ((S e.sp).slot bC) e.on rl) (fun rl=>sm rl (m8 bC (S e.sp).bn)) ?_ ?_
 ·cases aF:(S e.sp).bn.contains bC with
  | true=>
   have aN:m8 bC (S e.sp).bn=(S e.sp).bn:=by unfold m8;rw [g6 aF]
   unfold kI dp.slot at *;rw [aN];refine kh ?_;exact lY.mk e.bC I w5 (cz C) (by simp only [aN];exact aI.all _)
  | false=>
   have aN:m8 bC (S e.sp).bn=((S e.sp).bn++[bC]).mergeSort (fun a b=>decide (a≤b)):=by unfold m8;rw [d9 (by rw [aF];simp)]
   have l5:(m8 bC (S e.sp).bn).length=(S e.sp).bn.length+1:=by rw [aN,at2];simp
   rcases df:e.bC with _|⟨g,cap,dZ⟩
   ·have bu:(S e.sp).bn=[]:=by rw [df] at w5;exact w5
    rw [bu] at aN l5;unfold kI kH dp.slot at *;rw [df] at I;rw [bu] at I ⊢;refine cv I ?_;intro I;refine aa.Dq ai I C C C C C C C er C C C C C C C (by show 1*8≤_;omega) (fun aW ch cs' U ad aj I=>?_)
    obtain ⟨dZ,rfl⟩:∃ dZ,cs'=[bC].map bb++dZ:=⟨cs'.drop 1,by
     have:=ai7 1 cs'
     rw [aj] at this
     exact this.symm⟩
    refine cv I ?_;intro I;refine aa.b7 rfl rfl rfl rfl rfl (HK aW ch [bC] dZ ba) I (.cons aZ .nil) ?_ (fun _ _ ⟨h,_⟩ _=>by cases h);rintro _ _ ⟨⟨⟩,rfl⟩ I;refine fK ?_;exact lY.mk (some (aW,ch,dZ)) I (by show (m8 bC []).length+dZ.length=ch;rw [l5];simp at U ⊢;omega) (cz C) (by simp only [k7,j1,l5];rw [aN];exact DR)
   ·rw [df] at w5
    have w5:(S e.sp).bn.length+dZ.length=cap:=w5;unfold kI kH dp.slot at *;rw [df] at I;simp only [j1,ad',d8] at I ⊢;refine cv I ?_;intro I;refine aa.Dr ai I C C C C C C C er C C C C aZ cP ag HI C C C (by show _*8≤_;omega) ag (fun aW ch cs' U ad aj I=>?_)
    obtain ⟨nc,rfl⟩:∃ nc,cs'=((S e.sp).bn++[bC]).map bb++nc:=⟨cs'.drop ((S e.sp).bn.length+1),by
     have:=ai7 ((S e.sp).bn.length+1) cs'
     rw [aq6 ba] at aj
     rw [aj] at this
     rw [ae1]
     exact this.symm⟩
    refine cv I ?_;intro I;have Nq:=HK aW ch ((S e.sp).bn++[bC]) nc cP;rw [f8,ag'] at Nq;refine aa.b7 rfl rfl rfl rfl rfl Nq I (.cons aZ .nil) ?_ (fun _ _ ⟨h,_⟩ _=>by cases h);rintro _ _ ⟨⟨⟩,rfl⟩ I;refine fK ?_;exact lY.mk (some (aW,ch,nc)) I (by show (m8 bC _).length+nc.length=ch;rw [l5];simp at U ⊢;omega) (cz C) (by simp only [k7,j1,l5];rw [aN];exact DR)
 rintro rl w6 I;have je:=cI.hT (e':=⟨e.sp,e.b,e.on,rl⟩) C (aA6 (n+j)) (aA.slot bC) w6;have HO:=Nk w mb _ _ _ je f.arg ((f.path.take (j+1)).length:Int) ((f.path.take (j+1)).getD 0 0) ((f.path.take (j+1)).getD 1 0);generalize Nr:S.hT e.sp ((S e.sp).slot bC)=sn at HO je;unfold h2 at HO;unfold kI kH at I ⊢;unfold h2;unfold iF at kD;refine cv I ?_;intro I;refine aa.mv I (((bQ.own cA,dC.box 319 ((bs f.arg (f.path.take (j+1))).map (af.int .i64))):bQ×dC)::l4 sn mb (pre++⟨e.sp,e.b,e.on,rl⟩::post)) (aI.ik (by rw [← Nr];exact DV (mb:=mb) (bS:=cA) (sp:=bs f.arg (f.path.take (j+1))) cI ((S e.sp).slot bC) e.on rl)) (fun aA=>?_);revert aA
 repeat clear I
 intro I;refine aa.b7 rfl rfl rfl rfl rfl HO I (aI.all _).there ?_ (fun _ _ ⟨_,_,_,_,h,_⟩ _=>by cases h);rintro _ _ ⟨yS,b1,yT,Ns,⟨⟩,rfl,u9⟩ I;refine aa.run ai C (aa.nil ?_);refine b4 ?_;refine ae.mv I (kI cA (bs f.arg (f.path.take (j+1))) sn mb yS b1 yT b1.b (sn b1.sp) b1.on b1.bC) (aI.ik (Nn cA (bs f.arg (f.path.take (j+1))) sn mb yS b1 yT)) (fun aA=>?_);revert aA
 repeat clear I
 intro I;have wB:gX neg f.arg f.path (j+1) σ=sn.hT b1.sp ((sn b1.sp).need neg):=by
  rw [gX]
  try simp only
  rw [cc,kY,← dz,Nr];have:bs f.arg (f.path.take (j+1))=b1.sp:=Ns.symm;rw [this]
 have Bg:(kI cA (bs f.arg (f.path.take (j+1))) sn mb yS b1 yT b1.b ((sn b1.sp).need neg) b1.on b1.bC).Perm (((bQ.own cA,dC.box 319 ((bs f.arg (f.path.take (j+1))).map (af.int .i64))):bQ×dC)::l4 (gX neg f.arg f.path (j+1) σ) mb (yS++b1::yT)):=by
  rw [wB];exact DV (mb:=mb) (bS:=cA) (sp:=bs f.arg (f.path.take (j+1))) u9 ((sn b1.sp).need neg) b1.on b1.bC
 have WO:pt (n+(j+1)) (gX neg f.arg f.path (j+1) σ) (yS++b1::yT):=by
  have:=u9.hT (e':=b1) C (g9 _) ((u9.mH b1.sp).need neg) (u9.bC b1 ba);rw [← wB] at this;exact this
 unfold kI kH dp.need at Bg;unfold kI kH at I ⊢;cases eM:(sn b1.sp).gv<;>rw [eM] at I Bg<;>cases neg
 all_goals
  refine gK I ?_;intro I;exact bp.mk (j+1,yS,b1,yT) I ⟨aw,Ns,WO⟩ ck (aI.WG DR Bg) (by show f.path.length-(j+1)<f.path.length-j;omega)
section
variable {P:Program} {Γ:cy} {N:Nat} {env:Env} {s:al} {ops:Array Oper} {rest:List Oper} {Q:b6→Env→al→Prop} {L R:a8}
theorem dx.HP {B:fO} {ro:Option Nat} {a:Act} {w:World} {p:bU} (h:dx N B ro env s a w p) {kb b n cap i:Nat} {T w7:TypeId} {cells cs:List af} (cE:kb≠b) (j2:s kb=some (.box T cells)) (aF:cells[i]? = some (eh b n cap)) (ar:s b=some (.box w7 cs)) (cj:cs.length=cap) (az:n≤cap) (hm:n≤9223372036854775807)
  (iv:(cs.take n).all e7=true):∃ bj,dx N B ro env ((s.del b).set kb (.box T (cells.set i (.aB 1 (cs.take n) .bc)))) a w bj∧dc w p w bj∧Kept s ((s.del b).set kb (.box T (cells.set i (.aB 1 (cs.take n) .bc)))) w p w bj:=by
 obtain ⟨vs,U,ad,aj⟩:=h.wf.obj _ _ ar;have aw:b<w.heap.size:=(t8.1 U).1;have hle:dc w p w (p.ea b True):=⟨rfl,rfl,rfl,g9 _,fun _ _ h => .inl h,fun _ _ _=>rfl,fun _ _ h=>h⟩;have df:∀ v,Rel w p v (eh b n cap)→Rel w (p.ea b True) v (.aB 1 (cs.take n) .bc):=by
  intro v aC;cases aC;have hl:=ad.take n;have wJ:=qE hl iv;have kt:=tq wJ;refine .aB b 0 n cap 1 (vs.toList.take n) (cs.take n) .bc ba x1 ?_ (hl.mono hle) (fun v au=>by rw [Az (wJ v au)];rfl) hm az (fun h=>by cases h) (fun b h=>by cases h);rw [kt];intro i v aN;refine ⟨.inr ⟨rfl,trivial⟩,?_⟩;rw [af8,jE U];rw [ai2] at aN;split at aN
  ·simpa using aN
  ·cases aN
 have aA:Kept s ((s.del b).set kb (.box T (cells.set i (.aB 1 (cs.take n) .bc)))) w p w (p.ea b True):=⟨fun _ _ _=>rfl,fun aW an fZ=>by
  have a':aW≠kb:=fun e=>by subst e;rw [j2] at fZ;cases fZ
  rw [al.fy _ _ a']
  by_cases e:aW=b
  ·subst e;exact al.nw _ _
  ·rw [al.mO _ e];exact fZ,fun aW o an fZ aD=>by
   rcases aD with aD|⟨rfl,_⟩
   ·exact aD
   ·rw [ar] at fZ;cases fZ⟩
 have cg:dq w (p.ea b True) ((s.del b).set kb (.box T (cells.set i (.aB 1 (cs.take n) .bc)))):=by
  refine ⟨fun aW o an=>?_,fun aW o aD=>by rcases aD with aD|⟨rfl,_⟩;exact h.wf.lt _ _ aD;exact aw⟩;have fa:aW≠b→∀ o,p.ea b True aW o↔p aW o:=fun e o=>⟨fun aD=>by rcases aD with aD|⟨e',_⟩;exact aD;exact absurd e' e,.inl⟩
  by_cases jD:aW=kb
  ·subst jD
   rw [al.gk] at an;cases an;obtain ⟨us,g1,g2,g3⟩:=h.wf.obj _ _ j2;obtain ⟨v,uC,qH⟩:=g2.get aF;have bz:=(g2.mono hle).set i (df v qH);have fG:us.toList.set i v=us.toList:=by
    apply ar0;intro k;rw [as7];split
    ·rename_i e;subst e
     split
     ·rw [uC]
     ·rename_i aw;rw [am4 ag]
    ·rfl
   rw [fG] at bz;exact ⟨us,g1,bz,fun o aD=>g3 o ((fa cE o).1 aD)⟩
  rw [al.fy _ _ jD] at an;by_cases e:aW=b
  ·subst e;rw [al.nw] at an;cases an
  ·rw [al.mO _ e] at an
   have ah:=h.wf.obj aW o an;have fa:=fa e;cases o with
   | box t c=>obtain ⟨us,g1,g2,g3⟩:=ah;exact ⟨us,g1,g2.mono hle,fun o aD=>g3 o ((fa o).1 aD)⟩
   | row t sz n=>obtain ⟨cur,g1,g2,g3,g4⟩:=ah;exact ⟨cur,g1,g2,g3,fun o=>(fa o).trans (g4 o)⟩
   | map es=>obtain ⟨cN,c,g1,g2,g3⟩:=ah;exact ⟨cN,c,g1,⟨g2.1.mono hle,g2.2.mono hle⟩,g3⟩
   | ll es it l c=>exact ah.qz hle C C
   | tick m=>exact ah
   | loop r env=>exact ⟨ah.1,fun t v h=>(ah.2 t v h).mono hle⟩
 exact ⟨_,h.step hle aA cg,hle,aA⟩
theorem Nt {kb b:Nat} {o o' o'':dC} {dt:a8} (I:Ok s L) (U:bo L (.own kb) o R) (ad:bo R (.own b) o' dt):kb≠b∧aS s L kb=some o∧aS s L b=some o'∧((aS s L).del b).set kb o''=aS s ((.own kb,o'')::dt)∧Ok s ((.own kb,o'')::dt):=by
 obtain ⟨cd,cF⟩:=U.perm I;have Nu:gone (aS s R) (.own kb)∧Ok s R:=cF;obtain ⟨b1,dj⟩:=ad.perm Nu.2;have Nv:gone (aS s dt) (.own b)∧Ok s dt:=dj;have ek:aS s L=((aS s dt).set b o').set kb o:=by rw [cd];show lX (aS s R) (.own kb) o=_;rw [b1];rfl
 have j2:aS s R kb=none:=Nu.1;rw [b1] at j2;have DW:((aS s dt).set b o') kb=none:=j2;have cE:kb≠b:=fun e=>by subst e;rw [al.gk] at DW;cases DW
 rw [al.fy _ _ cE] at DW;have an:aS s dt b=none:=Nv.1;refine ⟨cE,U.get I,?_,?_,DW,Nv.2⟩
 ·rw [ek,al.fy _ _ (fun e=>cE e.symm),al.gk]
 ·funext x
  show ((aS s L).del b).set kb o'' x=((aS s dt).set kb o'') x;by_cases ab:x=kb
  ·subst ab;rw [al.gk,al.gk]
  ·rw [al.fy _ _ ab,al.fy _ _ ab]
   by_cases HQ:x=b
   ·subst HQ;rw [al.nw,an]
   ·rw [al.mO _ HQ,ek,al.fy _ _ ab,al.fy _ _ HQ]
theorem ae.HP {c:Code} (I:Ok s L) {kb b n cap:Nat} (i:Nat) {T w7:TypeId} {cells cs:List af} {dt:a8} (U:bo L (.own kb) (.box T cells) R) (ad:bo R (.own b) (.box w7 cs) dt) (aF:cells[i]? = some (eh b n cap)) (cj:cs.length=cap) (az:n≤cap) (hm:n≤9223372036854775807) (iv:(cs.take n).all e7=true)
  (h:Ok s ((.own kb,.box T (cells.set i (.aB 1 (cs.take n) .bc)))::dt)→ae P N c Q env (aS s ((.own kb,.box T (cells.set i (.aB 1 (cs.take n) .bc)))::dt))):ae P N c Q env (aS s L):=by
 obtain ⟨g1,g2,g3,g4,g5⟩:=Nt (o'' := .box T (cells.set i (.aB 1 (cs.take n) .bc))) I U ad;intro tu B a w p eZ aJ;obtain ⟨bj,aj,a',bz⟩:=aJ.HP g1 g2 aF g3 cj az hm iv;rw [g4] at aj bz;exact mh (h g5 tu B a w bj eZ aj) fun _ _ _ q=>q.after a' bz
end
abbrev k8:=List Int×Nat
def ib (σ:dW) (e:k8):bQ×dC:=(.own e.2,.box 340 (kH (σ e.1) (.aB 1 ((σ e.1).e2.map bb) .bc) (.aB 1 ((σ e.1).bn.map bb) .bc)))
def ou (es:List k8):SMap:=es.map fun e=>(e.1,.ptr e.2 0)
def mI (σ:dW) (mb:Nat) (es:List k8):a8:=rj mb (ou es)::es.map (ib σ)
theorem ae.Nw {P:Program} {N:Nat} {Q:b6→Env→al→Prop} {env:Env} {s:al} {c:Code} (σ:dW):∀ (es:List fT) (A:a8),(∀ e∈es,sm e.bC (σ e.sp).bn∧(σ e.sp).bn.length<bB)→Ok s (A++es.flatMap (iG σ)) →
    (Ok s (A++es.map fun e=>ib σ (e.sp,e.b))→ae P N c Q env (aS s (A++es.map fun e=>ib σ (e.sp,e.b))))→ae P N c Q env (aS s (A++es.flatMap (iG σ)))
  | [],A,_,I,h=>h I
  | e::es,A,ar,I,h=>by
    have an:=bG;obtain ⟨k0,kV⟩:=ar e i8;have WQ:Ok s ((A++[ib σ (e.sp,e.b)])++es.flatMap (iG σ))→ae P N c Q env (aS s ((A++[ib σ (e.sp,e.b)])++es.flatMap (iG σ))):=fun I=>by
      refine ae.Nw σ es (A++[ib σ (e.sp,e.b)]) (fun x ab=>ar x (i6 _ ab)) I ?_;intro I;rw [af9] at I ⊢;exact h I
    have kj:Ok s (ib σ (e.sp,e.b)::(A++es.flatMap (iG σ)))→ae P N c Q env (aS s (ib σ (e.sp,e.b)::(A++es.flatMap (iG σ)))):=fun I=>by
      refine ae.mv I ((A++[ib σ (e.sp,e.b)])++es.flatMap (iG σ)) (aI.ik ?_) WQ;rw [af9];exact (an7 (l₁:=A)).symm
    rw [aj9] at I ⊢;refine ae.mv I (iG σ e++(A++es.flatMap (iG σ))) (aI.ik (av9 _ _ _)) (fun aA=>?_);clear I;have p9:cR (kH (σ e.sp) (.aB 1 ((σ e.sp).e2.map bb) e.on) (.aB 1 ((σ e.sp).bn.map bb) .bc)) (kH (σ e.sp) (.aB 1 ((σ e.sp).e2.map bb) .bc) (.aB 1 ((σ e.sp).bn.map bb) .bc)) := .cons aO (.cons aO (.cons aU.bc (cR.refl _)));unfold iG pr at aA ⊢;rcases df:e.bC with _|⟨g,cap,dZ⟩
    · rw [df] at aA k0
      have bu:(σ e.sp).bn=[]:=k0;have HR:cR (kH (σ e.sp) (.aB 1 ((σ e.sp).e2.map bb) e.on) (k7 none (σ e.sp).bn)) (kH (σ e.sp) (.aB 1 ((σ e.sp).e2.map bb) .bc) (.aB 1 ((σ e.sp).bn.map bb) .bc)):=by
        rw [bu];exact .cons aO (.cons aO (.cons aU.bc (.cons aO (.cons aO (.cons aO (.cons aO (.one aU.empty)))))))
      refine ae.wE aA e.b _ .here HR (fun aA=>?_);refine ae.mv aA (ib σ (e.sp,e.b)::(A++es.flatMap (iG σ))) (.cons .here (aI.there (e:=(e.on,.row 3 1 (σ e.sp).e2.length)) (aI.all (A++es.flatMap (iG σ))))) kj
    · rw [df] at aA k0
      have ky:(σ e.sp).bn.length+dZ.length=cap:=k0;refine ae.HP aA 7 .here (.there .here) C cP ag ag HI (fun aA=>?_);rw [aq6 ba] at aA ⊢;refine ae.wE aA e.b _ .here p9 (fun aA=>?_);refine ae.mv aA (ib σ (e.sp,e.b)::(A++es.flatMap (iG σ))) (.cons .here (aI.there (e:=(e.on,.row 3 1 (σ e.sp).e2.length)) (aI.all (A++es.flatMap (iG σ))))) kj
structure w8 (n:Nat) (E:List k8) (σ:dW) (es:List k8):Prop where
 four:∀ e∈es,e.1.length=4
 rest:∀ q,q∉es.map Prod.fst→σ q=iU
 mH:∀ q,mG n (σ q)
 tl:∀ x∈E,x∈es
def WR (n:Nat) (σ:dW) (mb:Nat) (v:af) (o:ey) (K:a8):Prop:=o = .ret v∧∃ es,K=mI σ mb es∧w8 n [] σ es
theorem WS (w:bx) (hw:w.ps.length≤60) (l:List cb) (aE:3*l.length+3<bB) (ab:∀ x∈l,tJ w x) :
  bF d0 248 [gh w,p' l] [] (fun o K=>∃ mb,WR (3*l.length) (et l) mb (h2 w mb) o K):=by
 have an:=bG;refine bF.bl ai Tryz.func248 C C fun s I=>?_
 unfold gh e5;refine dF ?_;refine aa.rZ I C C C C (fun mb I=>?_);refine bD ?_;refine ae.b9 [5,12,13] C I (σ:=Nat×List fT) (fun q=>[(14,.int .i64 (q.1:Int))]) (fun q=>l4 (et (l.take q.1)) mb q.2) (fun q=>q.1≤l.length∧pt (3*q.1) (et (l.take q.1)) q.2) (fun q=>l.length-q.1) (0,[]) ⟨g8 _,⟨by simp,by simp,fun q _=>rfl,by simp,fun q=>WB _⟩⟩ (cz C) (aI.all _) ?_;rintro ⟨j,es⟩ ⟨aH,cI⟩ I;simp only at aH cI I ⊢;refine b8 ?_;refine ae.cond C (fun aw=>?_) (fun aY=>?_);rotate_left
 ·have aY:j=l.length:=by simp at aY;omega
  subst aY;rw [ae6] at cI I ⊢;refine ae.Nw (et l) es [rj mb (nb es)] (fun e he=>⟨cI.bC e he,by have:=(cI.mH e.sp).bn;omega⟩) I (fun I=>?_);refine ef ?_;refine Fin.bt I C aO (aI.all _) ⟨mb,rfl,es.map (fun e=>(e.sp,e.b)),?_,?_,?_,cI.mH,by simp⟩
  ·unfold mI ou nb
   simp [List.map_map,Function.comp_def]
  ·intro e he
   obtain ⟨x,ab,rfl⟩:=ag0.1 he;exact cI.four x ab
  ·intro q bk
   refine cI.rest q (fun hm=>bk ?_);obtain ⟨x,ab,rfl⟩:=ag0.1 hm;exact ag0.2 ⟨(x.sp,x.b),ag0.2 ⟨x,ab,rfl⟩,rfl⟩
 have aw:j<l.length:=by simpa using aw
 obtain ⟨x,ax,c7⟩:=b5 (f:=h1) aw;have ar:et (l.take (j+1))=addLit (et (l.take j)) x:=by
  unfold et;rw [hZ ax,aq'];rfl
 have aR:=WN w hw mb _ _ es cI ag x (ab x (d6 ax));unfold h2 gh e5 at aR;unfold h1 p6 ao.cells at c7 aR
 repeat (first|(refine Au I ?_;clear I;intro I)|refine aa.dK ai I rfl rfl rfl rfl rfl rfl rfl (fun cA I=>?_))
 refine aa.b7 rfl rfl rfl rfl rfl aR I (aI.all _).there ?_ (fun _ _ ⟨h,_⟩ _=>by cases h);rintro _ _ ⟨⟨⟩,du,rfl,je⟩ I;refine gf ?_;refine bp.mk (j+1,du) I ⟨aw,?_⟩ ck (by show aI _ (l4 (et (l.take (j+1))) mb du) _;rw [ar];exact aI.jt (aI.all _)) qb;rw [ar];exact je
theorem WT {es:List k8} {sp:List Int}:(ou es).find? (fun e=>e.1==sp)=none↔sp∉es.map Prod.fst:=by
 unfold ou;rw [av'];constructor
 ·intro h hm
  obtain ⟨e,he,rfl⟩:=ag0.1 hm;have:=h _ (ag0.2 ⟨e,he,rfl⟩);simp at this
 ·intro h x ab
  obtain ⟨e,he,rfl⟩:=ag0.1 ab;simp only [am7];intro b1;exact h (ag0.2 ⟨e,he,b1⟩)
theorem WU {es:List k8} {sp:List Int} {x:List Int×af} (h:(ou es).find? (fun e=>e.1==sp)=some x):∃ e∈es,e.1=sp∧x=(e.1,.ptr e.2 0):=by
 unfold ou at h;have U:=at8 h;have ad:=ax3 h;obtain ⟨e,he,rfl⟩:=ag0.1 U;exact ⟨e,he,by simpa using ad,rfl⟩
theorem w9 (w:bx) (mb n:Nat) (σ:dW) (es:List k8) {E:List k8} (cI:w8 n E σ es) (hI dT dh dJ:Int) :
  bF d0 280 [h2 w mb,iF [hI,dT,dh,dJ]] (mI σ mb es) (fun o K=>∃ b R,o = .ret (.ptr b 0)∧(∃ du,(ib σ ([hI,dT,dh,dJ],b)::R).Perm (mI σ mb du)∧w8 n E σ du∧([hI,dT,dh,dJ],b)∈du)∧K=ib σ ([hI,dT,dh,dJ],b)::R):=by
 have h:=Nc (.aB 1 [] .bc) (.aB 1 [] .bc) aU.empty aU.empty w mb (ou es) (fun e he=>by
  unfold ou at he
  obtain ⟨x,ab,rfl⟩:=ag0.1 he
  exact cI.four x ab) hI dT dh dJ
 refine bF.frame h (R:=es.map (ib σ)) (.cons .here .nil) ?_;rintro o aP (⟨x,ab,rfl,rfl⟩|⟨a7,b,rfl,rfl⟩)
 ·obtain ⟨⟨sp,b⟩,he,U,rfl⟩:=WU ab
  simp only at U;subst U;obtain ⟨pre,post,rfl⟩:=au6 he;have aD:((rj mb (ou (pre++([hI,dT,dh,dJ],b)::post)))::(pre++([hI,dT,dh,dJ],b)::post).map (ib σ)).Perm (ib σ ([hI,dT,dh,dJ],b)::(rj mb (ou (pre++([hI,dT,dh,dJ],b)::post))::(pre.map (ib σ)++post.map (ib σ)))):=by
   rw [ae1,ae2];exact ((an7).cons _).trans (am3.swap _ _ _)
  exact ⟨[],_,by simp,aD,b,_,rfl,⟨_,aD.symm,cI,by simp⟩,rfl⟩
 ·have h4:=WT.1 a7
  have A5:=cI.rest _ h4;have cd:ib σ ([hI,dT,dh,dJ],b)=(.own b,.box 340 (kH iU (.aB 1 [] .bc) (.aB 1 [] .bc))):=by
   unfold ib;simp only [A5];rfl
  refine ⟨[],ib σ ([hI,dT,dh,dJ],b)::(rj mb (ou (es++[([hI,dT,dh,dJ],b)]))::es.map (ib σ)),by simp,?_,b,_,rfl,⟨es++[([hI,dT,dh,dJ],b)],?_,?_,by simp⟩,rfl⟩
  ·rw [cd]
   have b1:ou (es++[([hI,dT,dh,dJ],b)])=ou es++[([hI,dT,dh,dJ],.ptr b 0)]:=by unfold ou;rw [ae1];rfl
   rw [b1];exact am3.swap _ _ _
  ·unfold mI
   rw [ae1];refine (am3.swap _ _ _).trans (am3.cons _ ?_);exact at0 (l₁:=[ib σ ([hI,dT,dh,dJ],b)])
  ·refine ⟨fun e he=>?_,fun q bk=>cI.rest q (fun hm=>bk (by rw [ae1];exact ai' _ hm)),cI.mH,fun x ab=>ai' _ (cI.tl x ab)⟩
   rcases ae4.1 he with he|he
   ·exact cI.four e he
   ·rw [t6] at he;subst he;rfl
theorem WV (fv:af) (q:Int→Bool) (aen:a8→Prop) (xs:List Int) (aE:xs.length<bB) (h:∀ x∈xs,∀ K,aen K→di d0 fv [bb x] K (fun o aP=>o = .ret (.bool (q x))∧aen aP)) (K:a8) (aq:aen K) :
  bF d0 90 [.aB 1 (xs.map bb) .bc,fv] K (fun o aP=>o = .ret (.int .i64 (match xs.findIdx? q with|some i=>(i:Int)|none => -1))∧aen aP):=by
 have an:=bG;refine bF.bl ai Tryz.func90 C C fun s I=>?_
 refine gy ?_;refine ae.b9 [0,1,7] C I (σ:=Nat×a8) (fun j=>[(8,.int .i64 (j.1:Int))]) (fun j=>j.2) (fun j=>j.1≤xs.length∧aen j.2∧∀ i y,i<j.1→xs[i]? = some y→q y=false) (fun j=>xs.length-j.1) (0,K) ⟨g8 _,aq,fun i y aN=>absurd aN (ao9 _)⟩ (cz C) (aI.all _) ?_;rintro ⟨j,Bh⟩ ⟨aH,HS,cL⟩ I;simp only at aH HS cL I ⊢;refine b8 ?_;refine ae.cond C (fun aw=>?_) (fun aY=>?_)
 ·have aw:j<xs.length:=by simpa using aw
  obtain ⟨x,ab,bP⟩:=b5 (f:=bb) aw;have au:=h x (d6 ab) Bh HS;unfold bb at bP au;refine bD ?_;refine aa.gJ rfl rfl rfl rfl rfl rfl au I (aI.all _) ?_ (fun _ _ ⟨h,_⟩ _=>by cases h);rintro _ iH ⟨⟨⟩,kJ⟩ I;rw [d7] at I ⊢;cases bk:q x with
  | true=>
   rw [L6 q xs j x ab bk cL];refine e8 ?_;exact Fin.bt I C aO (aI.all _) ⟨rfl,kJ⟩
  | false=>
   refine bD ?_
   exact bp.mk (j+1,iH) I ⟨aw,kJ,fun i y aN ax=>by
    rcases ah5.1 aN with aN|rfl
    ·exact cL i y aN ax
    ·rw [ab] at ax;cases ax;exact bk⟩ ck (aI.all _) r3
 ·have aY:j=xs.length:=by simp at aY;omega
  subst aY;rw [L7 q xs (fun i y ax=>cL i y (oe ax) ax)];refine ef ?_;exact Fin.bt I C aO (aI.all _) ⟨rfl,HS⟩
theorem WW {α:Type} (q:α→Bool) (l:List α):decide ((match l.findIdx? q with|some i=>(i:Int)|none => -1)≥0)=l.any q:=by
 cases h:l.findIdx? q with
 | none=>
  rw [ah'] at h;have:l.any q=false:=by rw [ak3];intro x ab;rw [h x ab];simp
  rw [this];rfl
 | some i=>
  rw [ah3] at h;obtain ⟨aN,U,_⟩:=h;have:l.any q=true:=ag5.2 ⟨_,am9 aN,U⟩;rw [this];simp
theorem WX (fv:af) (q:Int→Bool) (aen:a8→Prop) (xs:List Int) (aE:xs.length<bB) (h:∀ x∈xs,∀ K,aen K→di d0 fv [bb x] K (fun o aP=>o = .ret (.bool (q x))∧aen aP)) (K:a8) (aq:aen K) :
  bF d0 40 [.aB 1 (xs.map bb) .bc,fv] K (fun o aP=>o = .ret (.bool (xs.any q))∧aen aP):=by
 rw [← WW];have aF:=WV fv q aen xs aE h K aq;refine bF.bl ai Tryz.func40 C C fun s I=>?_
 refine dF ?_;refine aa.b7 rfl rfl rfl rfl rfl aF I (aI.all _) ?_ (fun _ _ ⟨h,_⟩ _=>by cases h);rintro _ iH ⟨⟨⟩,kJ⟩ I;rw [d7] at I ⊢;refine eA ?_;exact Fin.bt I C aO (aI.all _) ⟨rfl,kJ⟩
theorem WY (f:FuncId) (ij ht:List af) (q:Int→Bool) (aen:a8→Prop) (xs:List Int) (aE:xs.length<bB) (h:∀ x∈xs,∀ K,aen K→di d0 (.func f ij ht) [bb x] K (fun o aP=>o = .ret (.bool (q x))∧aen aP)) (K:a8) (aq:aen K) :
  bF d0 198 [.aB 1 (xs.map bb) .bc,.func f ij ht] K (fun o aP=>o = .ret (.bool (xs.all q))∧aen aP):=by
 have U:∀ x∈xs,∀ K,aen K→di d0 (.func 233 [] [.br [.func f ij ht] 0]) [bb x] K (fun o aP=>o = .ret (.bool (!q x))∧aen aP):=fun x ab K bf=>by
  refine di.fk (first:=[]) (cap:=[.br [.func f ij ht] 0]) ?_;refine bF.bl ai Tryz.func233 C C fun s I=>?_
  have au:=h x ab K bf;unfold bb at au ⊢;refine dF ?_;refine aa.gJ rfl rfl rfl rfl rfl rfl au I (aI.all _) ?_ (fun _ _ ⟨h,_⟩ _=>by cases h);rintro _ iH ⟨⟨⟩,kJ⟩ I;rw [d7] at I ⊢;refine eA ?_;exact Fin.bt I C aO (aI.all _) ⟨rfl,kJ⟩
 rw [← A1];have aF:=WX _ (fun x => !q x) aen xs aE U K aq;refine bF.bl ai Tryz.func198 C C fun s I=>?_
 refine dF ?_;refine aa.b7 rfl rfl rfl rfl rfl aF I (aI.all _) ?_ (fun _ _ ⟨h,_⟩ _=>by cases h);rintro _ iH ⟨⟨⟩,kJ⟩ I;rw [d7] at I ⊢;refine eA ?_;exact Fin.bt I C aO (aI.all _) ⟨rfl,kJ⟩
theorem Nx (arg:Int) (path:List Int) (bC:Int) (h:path.length<2):aV d0 281 [iF (bs arg path),.int .i64 bC] (iF (bs arg (path++[bC]))):=by
 match path,h with
 | [],_=>exact Nd arg 0 0 bC
 | [a],_=>exact Nf arg a 0 bC
structure u' (n:Nat) (σ:dW):Prop where
 deep:∀ arg path,2≤path.length→(σ (bs arg path)).bn=[]
 mH:∀ q,mG n (σ q)
def l6 (n:Nat) (E:List k8) (σ:dW) (mb:Nat) (K:a8):Prop:=∃ es,K=mI σ mb es∧w8 n E σ es
def Bi (σ:dW) (arg:Int) (path:List Int):Bool:=(σ (bs arg path)).bn.all fun s => !(σ (bs arg (path++[s]))).gv
theorem WZ (w:bx) (mb n:Nat) (σ:dW) (arg:Int) (path:List Int) (aD:path.length<2) (bC:Int) {E:List k8} (K:a8) (bf:l6 n E σ mb K) :
  di d0 (.func 315 [] [.br [h2 w mb] 0,.br ((bs arg path).map (af.int .i64)) 0]) [bb bC] K (fun o aP=>o = .ret (.bool (!(σ (bs arg (path++[bC]))).gv))∧l6 n E σ mb aP):=by
 obtain ⟨es,rfl,cI⟩:=bf;have U:=Nx arg path bC aD;have ad:=w9 w mb n σ es cI arg ((path++[bC]).length:Int) ((path++[bC]).getD 0 0) ((path++[bC]).getD 1 0);refine di.fk (first:=[]) (cap:=[.br [h2 w mb] 0,.br ((bs arg path).map (af.int .i64)) 0]) ?_;refine bF.bl ai Tryz.func315 C C fun s I=>?_
 unfold h2 at *;unfold iF km at U;refine o5 ?_;refine aM.kG rfl rfl rfl rfl rfl rfl ad I (aI.all _) ?_ (fun _ _ ⟨_,_,h,_⟩ _=>by cases h);rintro _ _ ⟨b,R,⟨⟩,⟨du,fa,je,gm⟩,rfl⟩ I;rw [d7] at I ⊢;refine cv I ?_;intro I;exact Fin.bt I C aO (aI.ik fa) ⟨rfl,du,rfl,je⟩
theorem W0 (w:bx) (mb n:Nat) (az:n<bB) (σ:dW) (cc:u' n σ) (arg:Int) (path:List Int) (aD:path.length≤2) {E:List k8} (K:a8) (bf:l6 n E σ mb K) :
    bF d0 305 [h2 w mb,iF (bs arg path)] K (fun o aP=>o = .ret (.bool (Bi σ arg path))∧l6 n E σ mb aP):=by
  obtain ⟨es,rfl,cI⟩:=bf;have ad:=w9 w mb n σ es cI arg (path.length:Int) (path.getD 0 0) (path.getD 1 0);have lr:=(cc.mH (bs arg path)).bn
  have aj:=WY 315 [] [.br [h2 w mb] 0,.br ((bs arg path).map (af.int .i64)) 0] (fun s => !(σ (bs arg (path++[s]))).gv) (l6 n E σ mb) (σ (bs arg path)).bn ag (fun x ab K bf=>by
    have gH:path.length<2:=by
      rcases ar6 path.length 2 with h|h
      · exact h
      · rw [cc.deep arg path h] at ab;cases ab
    exact WZ w mb n σ arg path gH x K bf)
  refine bF.bl ai Tryz.func305 C C fun s I=>?_
  unfold h2 at *;unfold iF km at *;refine dF ?_;refine aa.b7 rfl rfl rfl rfl rfl ad I (aI.all _) ?_ (fun _ _ ⟨_,_,h,_⟩ _=>by cases h);rintro _ _ ⟨b,R,⟨⟩,⟨du,fa,je,gm⟩,rfl⟩ I;rw [d7] at I ⊢;unfold ib at I ⊢;refine cv I ?_;intro I;refine aa.mv I (mI σ mb du) (aI.ik fa) (fun I=>?_);refine aa.b7 rfl rfl rfl rfl rfl (aj _ ⟨du,rfl,je⟩) I (aI.all _) ?_ (fun _ _ ⟨h,_⟩ _=>by cases h);rintro _ iH ⟨⟨⟩,ov⟩ I;rw [d7] at I ⊢;refine eA ?_;exact Fin.bt I C aO (aI.all _) ⟨rfl,ov⟩
def va (σ:dW) (arg:Int) (path:List Int) (c:Nat):Bool:=
 decide (k2 (σ (bs arg path)).fS (1|||2^c)=0)&&(decide ((σ (bs arg path)).no &&& (1|||2^c)=0)&&Bi σ arg path)
theorem Bj (m:Nat):(((m:Nat):Int)==0)=decide (m=0):=by
 rw [af4,am7,i7];omega
theorem Ny (w:bx) (mb n:Nat) (az:n<bB) (σ:dW) (cc:u' n σ) (arg:Int) (path:List Int) (aD:path.length≤2) (c:Nat) (aF:c<3) {E:List k8} (K:a8) (bf:l6 n E σ mb K) :
  bF d0 291 [h2 w mb,iF (bs arg path),.int .i64 (c:Int)] K (fun o aP=>o = .ret (.bool (va σ arg path c))∧l6 n E σ mb aP):=by
 obtain ⟨es,rfl,cI⟩:=bf;have ad:=w9 w mb n σ es cI arg (path.length:Int) (path.getD 0 0) (path.getD 1 0);have lr:=cc.mH (bs arg path);have U:=Hx c ag;have kc:1|||2^c<2^64:=aj2 ec (ai4 ag ag)
 have aj:=fun K bf=>W0 (E:=E) w mb n az σ cc arg path aD K bf
 have hm:va σ arg path c=(decide (k2 (σ (bs arg path)).fS (1|||2^c)=0)&&(decide ((σ (bs arg path)).no &&& (1|||2^c)=0)&&Bi σ arg path)):=rfl;refine bF.bl ai Tryz.func291 C C fun s I=>?_
 unfold h2 at *;unfold iF km at *;refine dF ?_;refine aa.b7 rfl rfl rfl rfl rfl ad I (aI.all _) ?_ (fun _ _ ⟨_,_,h,_⟩ _=>by cases h);rintro _ _ ⟨b,R,⟨⟩,⟨du,fa,je,gm⟩,rfl⟩ I;rw [d7] at I ⊢;unfold ib at I ⊢;refine cv I ?_;intro I;refine aa.bits ((k2 (σ (bs arg path)).fS (1|||2^c):Nat):Int) C C C C C C (Dv lr.fS kc) ?_;refine ep ?_;cases sf:decide (k2 (σ (bs arg path)).fS (1|||2^c)=0) with
 | false=>
  refine aa.da 21 C (by rw [Bj];exact sf) ?_;refine eg ?_;rw [sf,f6] at hm;exact Fin.bt I C aO (aI.ik fa) ⟨by rw [hm],du,rfl,je⟩
 | true=>
  refine aa.dy 21 C (by rw [Bj];exact sf) ?_;refine cv I ?_;intro I;refine aa.bits (((σ (bs arg path)).no &&& (1|||2^c):Nat):Int) C C C C C C (uQ lr.no kc) ?_;refine ep ?_;cases kf:decide ((σ (bs arg path)).no &&& (1|||2^c)=0) with
  | false=>
   refine aa.da 30 C (by rw [Bj];exact kf) ?_;refine eg ?_;rw [sf,kf,f5,f6] at hm;exact Fin.bt I C aO (aI.ik fa) ⟨by rw [hm],du,rfl,je⟩
  | true=>
   refine aa.dy 30 C (by rw [Bj];exact kf) ?_;refine ep ?_;refine aa.mv I (mI σ mb du) (aI.ik fa) (fun I=>?_);refine aa.b7 rfl rfl rfl rfl rfl (aj _ ⟨du,rfl,je⟩) I (aI.all _) ?_ (fun _ _ ⟨h,_⟩ _=>by cases h);rintro _ iH ⟨⟨⟩,ov⟩ I;rw [d7] at I ⊢;refine eA ?_;rw [sf,kf,f5,f5] at hm;exact Fin.bt I C aO (aI.all _) ⟨by rw [hm],ov⟩
def xa (σ:dW) (arg:Int) (path:List Int):Bool := !(σ (bs arg path)).whole&&va σ arg path 2
theorem W1 (w:bx) (mb n:Nat) (az:n<bB) (σ:dW) (cc:u' n σ) (arg:Int) (path:List Int) (aD:path.length≤2) {E:List k8} (K:a8) (bf:l6 n E σ mb K) :
  bF d0 284 [h2 w mb,iF (bs arg path)] K (fun o aP=>o = .ret (.bool (xa σ arg path))∧l6 n E σ mb aP):=by
 obtain ⟨es,rfl,cI⟩:=bf;have ad:=w9 w mb n σ es cI arg (path.length:Int) (path.getD 0 0) (path.getD 1 0);have aj:=fun K bf=>Ny (E:=E) w mb n az σ cc arg path aD 2 ag K bf
 have hm:xa σ arg path=(!(σ (bs arg path)).whole&&va σ arg path 2):=rfl;refine bF.bl ai Tryz.func284 C C fun s I=>?_
 unfold h2 at *;unfold iF km at *;refine dF ?_;refine aa.b7 rfl rfl rfl rfl rfl ad I (aI.all _) ?_ (fun _ _ ⟨_,_,h,_⟩ _=>by cases h);rintro _ _ ⟨b,R,⟨⟩,⟨du,fa,je,gm⟩,rfl⟩ I;rw [d7] at I ⊢;unfold ib at I ⊢;refine cv I ?_;intro I;cases hw:(σ (bs arg path)).whole with
 | true=>
  refine aa.da 12 C (by show (!(σ (bs arg path)).whole)=false;rw [hw];rfl) ?_;refine eg ?_;rw [hw] at hm;exact Fin.bt I C aO (aI.ik fa) ⟨by rw [hm];rfl,du,rfl,je⟩
 | false=>
  refine aa.dy 12 C (by show (!(σ (bs arg path)).whole)=true;rw [hw];rfl) ?_;refine ep ?_;refine aa.mv I (mI σ mb du) (aI.ik fa) (fun I=>?_);refine aa.b7 rfl rfl rfl rfl rfl (aj _ ⟨du,rfl,je⟩) I (aI.all _) ?_ (fun _ _ ⟨h,_⟩ _=>by cases h);rintro _ iH ⟨⟨⟩,ov⟩ I;rw [d7] at I ⊢;refine eA ?_;rw [hw] at hm;exact Fin.bt I C aO (aI.all _) ⟨by rw [hm];rfl,ov⟩
def l7:Nat→Int→List Int→Int
 | 0,n,_=>n
 | k+1,n,l=>if l.contains n then l7 k (n+1) l else n
def xb (k:dp):Int:=l7 (k.e2.length+1) k.low k.e2
def xc (σ:dW) (arg:Int) (path:List Int):Bool:=decide (xb (σ (bs arg path))≤(σ (bs arg path)).high)&&va σ arg path 1
def ow (n:Int) (l:List Int):Nat:=(l.filter fun x=>decide (x≥n)).length
theorem HT (n:Int) (l:List Int):ow n l≤l.length:=List.length_filter_le _ _
theorem Nz (n:Int):∀ l:List Int,ow (n+1) l≤ow n l
  | []=>g9 _
  | x::r=>by
    have aX:=Nz n r;unfold ow at *;rw [aj5,aj5];by_cases U:x≥n+1
    · rw [g6 tp,g6 cP,i0,i0];omega
    · rw [d9 tp]
      split
      · rw [i0];omega
      · exact aX
theorem DX {n:Int}:∀ {l:List Int},n∈l→ow (n+1) l<ow n l
  | x::r,h=>by
    have bu:=Nz n r;unfold ow at *;rw [aj5,aj5];rcases af1.1 h with rfl|h
    · rw [d9 cP,g6 ba,i0];omega
    · have aX:=DX h
      unfold ow at aX;by_cases U:x≥n+1
      · rw [g6 tp,g6 cP,i0,i0];omega
      · rw [d9 tp]
        split
        · rw [i0];omega
        · exact aX
theorem DY:∀ (f mW:Nat) (n:Int) (l:List Int),ow n l<f→ow n l<mW→l7 f n l=l7 mW n l
  | f+1,mW+1,n,l,h,eL=>by
    rw [l7,l7];cases aF:l.contains n with
    | false=>rfl
    | true=>
      have:=DX (n:=n) (l:=l) (by simpa using aF);simp only [ag7];exact DY f mW (n+1) l ag ag
theorem W2 (w:bx) (mb n:Nat) (az:n<bB) (σ:dW) (cc:u' n σ) (arg:Int) (path:List Int) (aD:path.length≤2) {E:List k8} (K:a8) (bf:l6 n E σ mb K) :
  bF d0 283 [h2 w mb,iF (bs arg path)] K (fun o aP=>o = .ret (.cu [.int .i64 (xb (σ (bs arg path))),.bool (xc σ arg path)])∧l6 n E σ mb aP):=by
 have an:=bG;obtain ⟨es,rfl,cI⟩:=bf;have ad:=w9 w mb n σ es cI arg (path.length:Int) (path.getD 0 0) (path.getD 1 0);have aj:=fun K bf=>Ny (E:=E) w mb n az σ cc arg path aD 1 ag K bf
 have hm:xc σ arg path=(decide (xb (σ (bs arg path))≤(σ (bs arg path)).high)&&va σ arg path 1):=rfl;have lr:=cc.mH (bs arg path);have uF:=lr.e2;have ot:=lr.num;have W3:xb (σ (bs arg path))=l7 (ow (σ (bs arg path)).low (σ (bs arg path)).e2+1) (σ (bs arg path)).low (σ (bs arg path)).e2:=DY _ _ _ _ (by have:=HT (σ (bs arg path)).low (σ (bs arg path)).e2;omega) ag;have h8:=fun v=>yw (σ (bs arg path)).e2 v ag
 refine bF.bl ai Tryz.func283 C C fun s I=>?_
 unfold h2 at *;unfold iF km at *;refine dF ?_;refine aa.b7 rfl rfl rfl rfl rfl ad I (aI.all _) ?_ (fun _ _ ⟨_,_,h,_⟩ _=>by cases h);rintro _ _ ⟨b,R,⟨⟩,⟨du,fa,je,gm⟩,rfl⟩ I;rw [d7] at I ⊢;unfold ib at I ⊢;refine cv I ?_;intro I;refine ae.b9 [0,3,6] C I (σ:=Int) (fun v=>[(7,.int .i64 v)]) (fun _=>ib σ ([arg,(path.length:Int),path.getD 0 0,path.getD 1 0],b)::R) (fun v=>xb (σ (bs arg path))=l7 (ow v (σ (bs arg path)).e2+1) v (σ (bs arg path)).e2∧(σ (bs arg path)).low≤v∧v≤(σ (bs arg path)).low+((σ (bs arg path)).e2.length-ow v (σ (bs arg path)).e2:Nat)) (fun v=>ow v (σ (bs arg path)).e2) (σ (bs arg path)).low ⟨W3,Int.le_refl _,by omega⟩ (cz C) (aI.all _) ?_;rintro v ⟨au,uC,qH⟩ I;unfold ib at I ⊢;have so:=h8 v;unfold bg at so;cases aF:(σ (bs arg path)).e2.contains v with
 | true=>
  rw [aF] at so;have aw:=DX (n:=v) (l:=(σ (bs arg path)).e2) (by simpa using aF);have hle:=HT v (σ (bs arg path)).e2;rw [l7,aF] at au;simp only [ag7] at au;have dn:ad5 .i64 (v+1)=v+1:=ee ag ag;refine gK I ?_;intro I;refine bp.mk (v+1) I ⟨?_,by omega,by omega⟩ (by repeat (first|exact trivial|refine ⟨⟨_,rfl,aO⟩,?_⟩|refine ⟨⟨_,rfl,aU.of_eq (by (rw [dn]))⟩,?_⟩)) (aI.all _) aw;rw [au];exact DY _ _ _ _ ag ag
 | false=>
  rw [aF] at so;rw [l7,aF] at au;simp only [af6,ah9] at au;subst au;refine cv I ?_;intro I;cases ay:decide (xb (σ (bs arg path))≤(σ (bs arg path)).high) with
  | false=>
   refine aa.da 33 C ay ?_;refine eg ?_;rw [ay] at hm;exact Fin.bt I C aO (aI.ik fa) ⟨by rw [hm];rfl,du,rfl,je⟩
  | true=>
   refine aa.dy 33 C ay ?_;refine ep ?_;refine aa.mv I (mI σ mb du) (aI.ik fa) (fun I=>?_);refine aa.b7 rfl rfl rfl rfl rfl (aj _ ⟨du,rfl,je⟩) I (aI.all _) ?_ (fun _ _ ⟨h,_⟩ _=>by cases h);rintro _ iH ⟨⟨⟩,ov⟩ I;rw [d7] at I ⊢;refine eA ?_;rw [ay] at hm;exact Fin.bt I C aO (aI.all _) ⟨by rw [hm];rfl,ov⟩
def jL (w:bx) (s:Int):Nat:=(w.owner.getD s.toNat 0).toNat
def pv (w:bx) (σ:dW) (cn:List Int→Bool) (arg:Int) (path:List Int):List Int→Nat→Nat→Option (Nat×Nat)
 | [],m,n=>some (m,n)
 | s::r,m,n=>
  if (σ (bs arg (path++[s]))).gv && !cn (path++[s]) then none
  else if (σ (bs arg (path++[s]))).gv then pv w σ cn arg path r (m|||2^jL w s) n
  else if cn (path++[s]) then pv w σ cn arg path r m n
  else pv w σ cn arg path r m (n|||2^jL w s)
def tK (w:bx) (m:Nat) (i:Nat):Nat:=if m.testBit (3+i) then m|||(eV w.ps).getD (3+i) 0 else m
def rm (w:bx) (m:Nat):Nat:=(ah0 w.ps.length).foldl (tK w) m
def xd (w:bx) (σ:dW) (cn:List Int→Bool) (arg:Int) (path:List Int):Nat×Bool:=
 if (σ (bs arg path)).whole||((σ (bs arg path)).fS.testBit 1||((σ (bs arg path)).fS.testBit 2||(σ (bs arg path)).no.testBit 0)) then (0,false)
 else match pv w σ cn arg path (σ (bs arg path)).bn (σ (bs arg path)).fS (σ (bs arg path)).no with
  | none=>(0,false)
  | some (m,n)=>(k2 (rm w m) 1,decide (k2 (rm w m) 1 &&& n=0))
theorem bo.NA {o:bQ} {ds:dC}:∀ {L:a8},(o,ds)∈L→∃ R,bo L o ds R
  | e::L,h=>by
    rcases af1.1 h with rfl|h
    · exact ⟨_,bo.here⟩
    · obtain ⟨R,h⟩:=bo.NA h
      exact ⟨_,bo.there h⟩
structure DZ (w:bx) (σ:dW):Prop where
 slot:∀ q,∀ x∈(σ q).bn,0≤x∧x<(w.owner.length:Int)
def NB (w:bx) (mb n:Nat) (σ:dW) (arg:Int) (cn:List Int→Bool) (path:List Int):Prop:=
 ∀ (E:List k8) (K:a8),l6 n E σ mb K→bF d0 270 [h2 w mb,iF (bs arg path)] K (fun o aP=>o = .ret (.bool (cn path))∧l6 n E σ mb aP)
theorem W4 (w:bx) (hw:gg w) (mb n:Nat) (az:n<bB) (σ:dW) (cc:u' n σ) (fw:DZ w σ) (arg:Int) (path:List Int) (aD:path.length≤2) (cn:List Int→Bool) (rn:path.length<2→∀ s,NB w mb n σ arg cn (path++[s])) {E:List k8} (K:a8) (bf:l6 n E σ mb K) :
  bF d0 285 [h2 w mb,iF (bs arg path)] K (fun o aP=>o = .ret (.cu [.int .u64 ((xd w σ cn arg path).1:Int),.bool (xd w σ cn arg path).2])∧l6 n E σ mb aP):=by
 have an:=bG;obtain ⟨es,rfl,cI⟩:=bf;have ad:=w9 w mb n σ es cI arg (path.length:Int) (path.getD 0 0) (path.getD 1 0);have lr:=cc.mH (bs arg path);have hm:xd w σ cn arg path=if (σ (bs arg path)).whole||((σ (bs arg path)).fS.testBit 1||((σ (bs arg path)).fS.testBit 2||(σ (bs arg path)).no.testBit 0)) then (0,false)
  else match pv w σ cn arg path (σ (bs arg path)).bn (σ (bs arg path)).fS (σ (bs arg path)).no with
   | none=>(0,false)
   | some (m,n)=>(k2 (rm w m) 1,decide (k2 (rm w m) 1 &&& n=0)):=rfl
 have g1:=yK (σ (bs arg path)).fS 1 lr.fS ag;have g2:=yK (σ (bs arg path)).fS 2 lr.fS ag;have g0:=yK (σ (bs arg path)).no 0 lr.no ag;have kD:=fun bC h=>Nx arg path bC h
 refine bF.bl ai Tryz.func285 C C fun s I=>?_
 unfold h2 at *;unfold iF km at *;refine dF ?_;refine aa.b7 rfl rfl rfl rfl rfl ad I (aI.all _) ?_ (fun _ _ ⟨_,_,h,_⟩ _=>by cases h);rintro _ _ ⟨b,R,⟨⟩,⟨du,fa,je,gm⟩,rfl⟩ I;rw [d7] at I ⊢;unfold ib at I ⊢;refine tm I ?_;intro I;cases yU:(σ (bs arg path)).whole with
 | true=>
  refine aa.dy 30 C yU ?_;refine eg ?_;rw [yU,al9,g6 C] at hm;exact Fin.bt I C aO (aI.ik fa) ⟨by rw [hm];rfl,du,rfl,je⟩
 | false=>
 refine aa.da 30 C yU ?_;refine db ?_;cases qL:(σ (bs arg path)).fS.testBit 1 with
 | true=>
  refine eg ?_;rw [qL,al9,aq5,g6 C] at hm;exact Fin.bt I C aO (aI.ik fa) ⟨by rw [hm];rfl,du,rfl,je⟩
 | false=>
 refine db ?_;cases mr:(σ (bs arg path)).fS.testBit 2 with
 | true=>
  refine eg ?_;rw [mr,al9,aq5,aq5,g6 C] at hm;exact Fin.bt I C aO (aI.ik fa) ⟨by rw [hm];rfl,du,rfl,je⟩
 | false=>
 refine db ?_;cases yz:(σ (bs arg path)).no.testBit 0 with
 | true=>
  refine eg ?_;rw [yz,aq5,aq5,aq5,g6 C] at hm;exact Fin.bt I C aO (aI.ik fa) ⟨by rw [hm];rfl,du,rfl,je⟩
 | false=>
 rw [yU,qL,mr,yz] at hm;simp only [Bool.or_self,af6,ah9] at hm;refine cv I ?_;intro I;have adm:=lr.bn;refine ae.b9 [0,3,45,46] C I (σ:=Nat×Nat×Nat×List k8) (fun q=>[(47,.int .i64 (q.1:Int)),(7,.int .u64 (q.2.1:Int)),(8,.int .u64 (q.2.2.1:Int))]) (fun q=>mI σ mb q.2.2.2)
  (fun q=>q.1≤(σ (bs arg path)).bn.length∧pv w σ cn arg path (σ (bs arg path)).bn (σ (bs arg path)).fS (σ (bs arg path)).no=pv w σ cn arg path ((σ (bs arg path)).bn.drop q.1) q.2.1 q.2.2.1∧q.2.1<2^64∧q.2.2.1<2^64∧w8 n E σ q.2.2.2)
  (fun q=>(σ (bs arg path)).bn.length-q.1) (0,(σ (bs arg path)).fS,(σ (bs arg path)).no,du) ⟨g8 _,by rw [List.drop_zero],lr.fS,lr.no,je⟩ (cz C) (aI.ik fa) ?_
 rintro ⟨j,m,gN,HU⟩ ⟨aH,a7,yV,yW,u9⟩ I;simp only at aH a7 yV yW u9 I ⊢;refine b8 ?_;refine ae.cond C (fun aw=>?_) (fun aY=>?_);rotate_left
 ·have aY:j=(σ (bs arg path)).bn.length:=by
   have:¬ (j<(σ (bs arg path)).bn.length):=by simpa [bs] using aY
   omega
  subst aY;rw [List.drop_length,pv] at a7;rw [a7] at hm;simp only at hm;refine bD ?_;refine ae.b9 [0,3] C I (σ:=Nat×Nat) (fun q=>[(14,.int .i64 ((3+q.1:Nat):Int)),(7,.int .u64 (q.2:Int)),(8,.int .u64 (gN:Int))]) (fun q=>mI σ mb HU)
   (fun q=>q.1≤w.ps.length∧q.2=(ah0 q.1).foldl (tK w) m∧q.2<2^64) (fun q=>w.ps.length-q.1) (0,m) ⟨g8 _,rfl,yV⟩ (cz C) (aI.all _) ?_
  rintro ⟨c,hA⟩ ⟨aF,HV,eY⟩ I;simp only at aF HV eY I ⊢;have tL:=hw.jZ;have dn:ad5 .i64 (3+((w.ps.map bg).length:Int))=3+(w.ps.length:Int):=by rw [f0,ee ag ag]
  refine b8 ?_;refine ae.cond C (fun cl=>?_) (fun dd=>?_);rotate_left
  ·have dd:c=w.ps.length:=by rw [dn] at dd;simp at dd;omega
   subst dd;have sq:rm w m=hA:=HV.symm;rw [sq] at hm;refine bD ?_;refine aa.bits ((k2 hA 1:Nat):Int) C C C C C C (Dv eY ec) ?_;refine hx ?_;refine aa.bits ((k2 hA 1 &&& gN:Nat):Int) C C C C C C (uQ (Nat.and_lt_two_pow _ (Nat.xor_lt_two_pow ec ec)) yW) ?_;refine eA ?_;exact Fin.bt I C aO (aI.all _) ⟨by rw [hm];simp only [Bj],HU,rfl,u9⟩
  have cl:c<w.ps.length:=by rw [dn] at cl;simp at cl;omega
  have kc:=tC w.ps;obtain ⟨u,hu⟩:∃ u,(eV w.ps)[3+c]? = some u:=⟨_,f7 ag⟩;have W5:(eV w.ps).getD (3+c) 0=u:=by rw [d5,hu];rfl
  have xe:=yE tL u (d6 hu);have cY:=yK hA (3+c) eY ag;have aJ:(ah0 (c+1)).foldl (tK w) m=tK w hA c:=by rw [as2,aq',← HV];rfl
  have iD:tK w hA c=if hA.testBit (3+c) then hA|||u else hA:=by unfold tK;rw [W5]
  rw [iD] at aJ;have av:=A4 (w:=w) (yF hu);have zR:hA|||u<2^64:=aj2 eY xe
  cases NC:hA.testBit (3+c) with
  | false=>
   rw [NC] at cY aJ;simp only [af6,ah9] at aJ;refine cB ?_;exact bp.mk (c+1,hA) I ⟨cl,aJ.symm,eY⟩ Nh (aI.all _) (by show w.ps.length-(c+1)<w.ps.length-c;omega)
  | true=>
   rw [NC] at cY aJ;simp only [ag7] at aJ;refine db ?_;refine aa.l1 ai (3+c) C C C C C C C C C C ag ?_;refine aa.AR ai C C C C C C C (by simpa using av) ?_;skip;refine aa.bits ((hA|||u:Nat):Int) C C C C C C (wL eY xe) ?_;refine gf ?_;exact bp.mk (c+1,hA|||u) I ⟨cl,aJ.symm,zR⟩ Nh (aI.all _) (by show w.ps.length-(c+1)<w.ps.length-c;omega)
 have aw:j<(σ (bs arg path)).bn.length:=by simpa [bs] using aw
 obtain ⟨bC,ax,c7⟩:=b5 (f:=bb) aw;have gH:path.length<2:=by
  rcases ar6 path.length 2 with h|h
  ·exact h
  ·rw [cc.deep arg path h] at aw;cases aw
 have adn:=fw.slot _ bC (d6 ax);obtain ⟨k,rfl⟩:∃ k:Nat,bC=(k:Int):=⟨bC.toNat,by omega⟩;have qc:k<w.owner.length:=by omega
 have ado:=hw.own _ (am9 qc);have tL:=hw.jZ;have ND:w.owner[k]? = some ((jL w (k:Int):Nat):Int):=by
  unfold jL;rw [f7 qc,i9,d5,f7 qc];simp only [ae'];congr 1;omega
 have Bk:jL w (k:Int)<64:=by
  unfold jL;rw [i9,d5,f7 qc];simp only [ae'];omega
 have HW:(w.owner.map bb)[k]? = some (.int .i64 ((jL w (k:Int):Nat):Int)):=by simp [ND,bb]
 have W6:=A3 m _ yV Bk;have W7:=A3 gN _ yW Bk;have adp:=kD (k:Int) gH;have W8:=rn gH (k:Int);have aj:=w9 w mb n σ HU u9 arg ((path++[(k:Int)]).length:Int) ((path++[(k:Int)]).getD 0 0) ((path++[(k:Int)]).getD 1 0);have ju:(σ (bs arg path)).bn.drop j=(k:Int)::(σ (bs arg path)).bn.drop (j+1):=by
  rw [List.drop_eq_getElem_cons aw];rw [f7 aw] at ax;simp only [Option.some.injEq] at ax;rw [ax]
 rw [ju,pv] at a7;clear kD rn;generalize jL w (k:Int)=lE at ND Bk HW W6 W7 a7;refine T5 ?_;intro dD ju cL;refine bd.runs (is:=[0,1,6,7]) C ?_;refine bd.b7 2 rfl rfl rfl rfl rfl rfl rfl aj I (aI.all _) ?_ (fun _ _ ⟨_,_,h,_⟩ _=>by cases h);rintro _ _ ⟨dk,aeE,⟨⟩,⟨HX,LZ,D0,W9⟩,rfl⟩ I;rw [d7] at I ⊢;refine bd.runs (is:=[3,4]) C ?_;have W':=W8 HX _ ⟨HX,rfl,D0.four,D0.rest,D0.mH,fun x ab=>ab⟩;refine bd.TT (σ:=List k8) (fun _ => .bool (cn (path++[(k:Int)]))) (fun z=>aS s (mI σ mb z)) (fun z=>Ok s (mI σ mb z)∧w8 n HX σ z) (i:=5) (j:=8) ai C C C C C C C C C C C C (bo.get bo.here I) C C C C
  (a6.b7 rfl rfl W' I (aI.ik LZ)) ?_ (fun z _ h=>h) ?_ ?_ (fun _ _ ⟨_,_,_,h,_⟩=>by cases h)
 ·rintro y ak ⟨aP,rfl,yA,⟨⟩,xf,rfl,vb⟩
  rw [d7] at yA ⊢;exact ⟨xf,⟨yA,vb⟩,rfl,rfl⟩
 ·rintro z ⟨yX,vb⟩ h
  have Xa:=vb.tl _ W9;obtain ⟨aeH,Xb⟩:=bo.NA (o := .own dk) (L:=mI σ mb z) (i6 _ (ag0.2 ⟨_,Xa,rfl⟩));refine bd.ez 5 ai yX C C C C C C C C Xb C ?_;exact bd.congr _ (fun t=>TR _ _ _ C t) h
 rintro xf ⟨yX,vb⟩;refine bd.run C (bd.done C ?_);have D1:w8 n E σ xf:=⟨vb.four,vb.rest,vb.mH,fun x ab=>vb.tl x (D0.tl x ab)⟩;have NF:m|||2^lE<2^64:=aj2 yV (ai4 ag Bk)
 have HY:gN|||2^lE<2^64:=aj2 yW (ai4 ag Bk)
 unfold gh e5 p7 fl bg at *;cases sr:cn (path++[(k:Int)]) with
 | false=>
  refine dL ?_;cases eM:(σ (bs arg (path++[(k:Int)]))).gv with
  | true=>
   refine aa.dy 65 C eM ?_;refine e8 ?_;rw [sr,eM] at a7;simp only [aj3,Bool.and_self,ag7] at a7;rw [a7] at hm;exact Fin.bt yX C aO (aI.all _) ⟨by rw [hm];rfl,xf,rfl,D1⟩
  | false=>
   refine aa.da 65 C eM ?_;refine aa.da 12 C eM ?_;refine cB ?_;rw [sr,eM] at a7;simp only [f6,af6,ah9] at a7;exact bp.mk (j+1,m,gN|||2^lE,xf) yX ⟨aw,a7,yV,HY,D1⟩ ck (aI.all _) HH
 | true=>
  refine dL ?_;cases eM:(σ (bs arg (path++[(k:Int)]))).gv with
  | true=>
   refine aa.dy 65 C eM ?_;refine aa.dy 12 C eM ?_;refine cB ?_;rw [sr,eM] at a7;simp only [aj',Bool.and_false,af6,ah9,ag7] at a7;exact bp.mk (j+1,m|||2^lE,gN,xf) yX ⟨aw,a7,NF,yW,D1⟩ ck (aI.all _) HH
  | false=>
   refine aa.da 65 C eM ?_;refine aa.da 12 C eM ?_;refine bD ?_;rw [sr,eM] at a7;simp only [f6,af6,ah9,ag7] at a7;exact bp.mk (j+1,m,gN,xf) yX ⟨aw,a7,yV,yW,D1⟩ ck (aI.all _) HH
def ss (w:bx) (σ:dW) (arg:Int):Nat→List Int→Bool
 | 0,_=>false
 | k+1,p=>xc σ arg p||(xa σ arg p||(xd w σ (ss w σ arg k) arg p).2)
theorem NG (w:bx) (hw:gg w) (mb n:Nat) (az:n<bB) (σ:dW) (cc:u' n σ) (fw:DZ w σ) (arg:Int):∀ (k:Nat) (path:List Int),path.length≤2→3≤k+path.length→NB w mb n σ arg (ss w σ arg k) path
  | 0,path,aD,aj=>by omega
  | k+1,path,aD,aj=>by
    intro E K bf;have U:=fun K bf=>W2 (E:=E) w mb n az σ cc arg path aD K bf
    have ad:=fun K bf=>W1 (E:=E) w mb n az σ cc arg path aD K bf
    have a':=fun K bf=>W4 (E:=E) w hw mb n az σ cc fw arg path aD (ss w σ arg k) (fun aE bC=>NG w hw mb n az σ cc fw arg k (path++[bC]) (by rw [f8];simp;omega) (by rw [f8];simp;omega)) K bf
    have hm:ss w σ arg (k+1) path=(xc σ arg path||(xa σ arg path||(xd w σ (ss w σ arg k) arg path).2)):=rfl;refine bF.bl ai Tryz.func270 C C fun s I=>?_
    unfold h2 at *;unfold iF km at *;refine dF ?_;refine aa.b7 rfl rfl rfl rfl rfl (U K bf) I (aI.all _) ?_ (fun _ _ ⟨h,_⟩ _=>by cases h);rintro _ iH ⟨⟨⟩,ov⟩ I;rw [d7] at I ⊢;refine hx ?_;cases aN:xc σ arg path with
    | true=>
      refine eg ?_;rw [aN] at hm;exact Fin.bt I C aO (aI.all _) ⟨by rw [hm];rfl,ov⟩
    | false=>
      refine ep ?_;refine aa.b7 rfl rfl rfl rfl rfl (ad iH ov) I (aI.all _) ?_ (fun _ _ ⟨h,_⟩ _=>by cases h);rintro _ HZ ⟨⟨⟩,Bl⟩ I;rw [d7] at I ⊢;refine fK ?_;cases h4:xa σ arg path with
      | true=>
        refine eg ?_;rw [aN,h4] at hm;exact Fin.bt I C aO (aI.all _) ⟨by rw [hm];rfl,Bl⟩
      | false=>
        refine bD ?_;refine aa.b7 rfl rfl rfl rfl rfl (a' HZ Bl) I (aI.all _) ?_ (fun _ _ ⟨h,_⟩ _=>by cases h);rintro _ aeg ⟨⟨⟩,Xc⟩ I;rw [d7] at I ⊢;refine eg ?_;rw [aN,h4] at hm;exact Fin.bt I C aO (aI.all _) ⟨by rw [hm];rfl,Xc⟩
def nN (w:bx) (σ:dW):Bool:=(ah0 3).all fun a=>ss w σ ((a:Nat):Int) 3 []
def H0:af := .iface 291 (.agg [])
theorem Xd (w:bx) (hw:gg w) (mb n:Nat) (az:n<bB) (σ:dW) (cc:u' n σ) (fw:DZ w σ) {E:List k8} (K:a8) (bf:l6 n E σ mb K) :
  bF d0 249 [h2 w mb] K (fun o aP=>(o=if nN w σ then .ret (.cu []) else .panic H0)∧l6 n E σ mb aP):=by
 have U:=fun (a:Nat) K bf=>NG w hw mb n az σ cc fw ((a:Nat):Int) 3 [] ba ba E K bf
 refine bF.bl ai Tryz.func249 C C fun s I=>?_
 unfold h2 at *;unfold iF km at *;refine gy ?_;refine ae.b9 [0] C I (σ:=Nat×a8) (fun q=>[(3,.int .i64 (q.1:Int))]) (fun q=>q.2) (fun q=>q.1≤3∧((ah0 q.1).all fun a=>ss w σ ((a:Nat):Int) 3 [])=true∧l6 n E σ mb q.2) (fun q=>3-q.1) (0,K) ⟨by omega,rfl,bf⟩ (cz C) (aI.all _) ?_;rintro ⟨j,iH⟩ ⟨aH,aR,ov⟩ I;simp only at aH aR ov I ⊢;refine b8 ?_;refine ae.cond C (fun aw=>?_) (fun aY=>?_);rotate_left
 ·have aY:j=3:=by simp at aY;omega
  subst aY;have hm:nN w σ=true:=aR;refine ef ?_;exact Fin.bt I C aO (aI.all _) ⟨by rw [hm];rfl,ov⟩
 have aw:j<3:=by simp at aw;omega
 refine bD ?_;refine aa.b7 rfl rfl rfl rfl rfl (U j iH ov) I (aI.all _) ?_ (fun _ _ ⟨h,_⟩ _=>by cases h);rintro _ HZ ⟨⟨⟩,Bl⟩ I;rw [d7] at I ⊢;refine fK ?_;cases aF:ss w σ ((j:Nat):Int) 3 [] with
 | false=>
  refine bD ?_;refine aa.panic C C C C ?_;have hm:nN w σ=false:=by
   unfold nN;rw [aw4];exact ⟨j,by simpa using aw,by rw [aF];simp⟩
  exact Fin.fb I aO (aI.all _) ⟨by rw [hm];rfl,Bl⟩
 | true=>
  refine kh ?_;exact bp.mk (j+1,HZ) I ⟨aw,by rw [as2,ax6,aR];simp [aF],Bl⟩ ck (aI.all _) (by show 3-(j+1)<3-j;omega)
mutual
def mJ:ao→List ao
 | .mk o a p c n ks=>if (ao.mk o a p c n ks).c0 then [.mk o a p c n ks] else pw ks
def pw:List ao→List ao
 | []=>[]
 | x::r=>mJ x++pw r
end
theorem H2 (f:ao):mJ f=if f.c0 then [f] else pw f.kids:=by cases f;rw [mJ];rfl
def h3 (f g:ao):Bool:=decide (f.op=g.op)&&(decide (f.arg=g.arg)&&(decide (f.cls=g.cls)&&(decide (f.n=g.n)&&f.path==g.path)))
def kn (l:List ao) (f:ao):List ao:=if l.any (fun x=>h3 x f) then l else l++[f]
def l8 (gen:Int) (l:List ao) (m:hS):List ao:=if m.gen=gen then (mJ m.fact).foldl kn l else l
def ca (p:bR) (gen:Int):List ao:=p.methods.foldl (l8 gen) []
def px (p:bR) (gen:Int):Bool:=decide (gen≥0)&&decide (gen<(p.dV.length:Int))
def hc (p:bR) (gen:Int):Int:=if gu p&&px p gen then (if (ca p gen).length≤7 then 0 else 3) else 2
def su:Nat→List ao→Nat→List cb
 | _,[],_=>[]
 | i,f::r,v=>(f,!v.testBit i)::su (i+1) r v
def rp (l:List ao) (v:Nat):List cb:=su 0 l v
def nd (w:bx) (l:List ao) (v:Nat):Bool:=nN w (et (rp l v))
def e6 (w:bx) (l:List ao):List Nat:=(ah0 (2^l.length)).filter (nd w l)
mutual
def tM (l:List ao) (v:Nat):ao→Bool
 | .mk o a p c n ks=>
  if o=1 then true
  else if o=5 then !(ox l v 0 ks)
  else if o=6 then ox l v 0 ks&&ox l v 1 ks
  else if o=7 then ox l v 0 ks||ox l v 1 ks
  else match l.findIdx? (fun x=>h3 x (.mk o a p c n ks)) with
   | some i=>v.testBit i
   | none=>false
def ox (l:List ao) (v:Nat):Nat→List ao→Bool
 | _,[]=>false
 | 0,x::_=>tM l v x
 | n+1,_::r=>ox l v n r
end
theorem D2 (l:List ao) (v:Nat):∀ (n:Nat) (ks:List ao) (x:ao),ks[n]? = some x→ox l v n ks=tM l v x
 | 0,y::r,x,h=>by rw [ox];simp at h;rw [h]
 | n+1,y::r,x,h=>by rw [ox];exact D2 l v n r x fV
theorem Xe (l:List ao) (v:Nat) (f:ao):tM l v f =
  if f.op=1 then true
  else if f.op=5 then !(ox l v 0 f.kids)
  else if f.op=6 then ox l v 0 f.kids&&ox l v 1 f.kids
  else if f.op=7 then ox l v 0 f.kids||ox l v 1 f.kids
  else match l.findIdx? (fun x=>h3 x f) with
   | some i=>v.testBit i
   | none=>false:=by cases f;rw [tM];rfl
def qd (gen:Int) (l:List ao) (v:Nat):Nat→List hS→List Int
 | _,[]=>[]
 | i,m::r=>if m.gen=gen&&tM l v m.fact then (i:Int)::qd gen l v (i+1) r else qd gen l v (i+1) r
def c' (p:bR) (gen:Int) (l:List ao) (v:Nat):List Int:=qd gen l v 0 p.methods
inductive bI where
 | leaf (ms:List Int)
 | test (atom:Nat) (no yes:bI)
 deriving Inhabited
namespace bI
def kC:bI→Nat
 | .leaf _=>0
 | .test _ a b=>1+max a.kC b.kC
def leaves:bI→Nat
 | .leaf _=>1
 | .test _ a b=>a.leaves+b.leaves
def before (a b:bI):Bool:=decide (a.kC<b.kC)||(decide (a.kC=b.kC)&&decide (a.leaves<b.leaves))
def laid:List bw→bI→List bw
 | l,.leaf ms=>l++[⟨-1,0,0,ms⟩]
 | l,.test i a b=>
  let vc:=laid (l++[⟨i,0,0,[]⟩]) a
  let fE:=laid vc b
  fE.set l.length ⟨i,(l.length:Int)+1,(vc.length:Int),[]⟩
end bI
def nO (have':Nat→List Int):List Nat→Bool
 | []=>true
 | v::r=>r.all fun u=>have' u==have' v
def firstM (have':Nat→List Int):List Nat→List Int
 | []=>[]
 | v::_=>have' v
def xg (out:Option bI) (t:bI):Option bI:=match out with
 | none=>some t
 | some o=>if t.before o then some t else some o
def fp (i:Nat) (vs:List Nat):List Nat:=vs.filter fun v=>v.testBit i
def fq (i:Nat) (vs:List Nat):List Nat:=vs.filter fun v => !v.testBit i
def l9 (g:List Nat→bI) (vs:List Nat) (out:Option bI) (i:Nat):Option bI:=
 if (fp i vs).isEmpty||(fq i vs).isEmpty then out else xg out (.test i (g (fq i vs)) (g (fp i vs)))
def nf (A:Nat) (have':Nat→List Int):Nat→List Nat→bI
 | 0,vs => .leaf (firstM have' vs)
 | f+1,vs=>if nO have' vs then .leaf (firstM have' vs) else ((ah0 A).foldl (l9 (nf A have' f) vs) none).getD (.leaf [])
def tN (p:bR) (gen:Int):bI:=
 let l:=ca p gen
 let vs:=e6 (bT p) l
 nf l.length (c' p gen l) vs.length vs
def rq (g:List bw) (v:Nat):Nat→Int→Nat→Int×Nat
 | 0,eU,n=>(eU,n)
 | f+1,eU,n=>
  if (g.getD eU.toNat default).atom≥0 then rq g v f (if v.testBit (g.getD eU.toNat default).atom.toNat then (g.getD eU.toNat default).yes else (g.getD eU.toNat default).no) (n+1)
  else (eU,n)
def leads (g:List bw) (v:Nat):Int×Nat:=rq g v g.length 0 0
def vd (p:bR) (gen:Int) (g:List bw):Bool:=
 let l:=ca p gen
 g.all (fun x=>decide (x.atom<(l.length:Int)))&&(e6 (bT p) l).all fun v=>(g.getD (leads g v).1.toNat default).ms==c' p gen l v
theorem yY (v c:Nat):(((v >>> c &&& 1:Nat):Int)==1)=v.testBit c:=by
 rw [show (((v >>> c &&& 1:Nat):Int)==1)=decide (((v >>> c &&& 1:Nat):Int)=1) from rfl,Nat.and_one_is_mod,Nat.testBit_eq_decide_div_mod_eq,Nat.shiftRight_eq_div_pow];apply decide_eq_decide.2;omega
theorem NH (g:List bw) (av:hn g=true) (v:Nat) (au:v<2^63):aV d0 75 [gW g,.int .i64 (v:Int)] (.cu [.int .i64 (leads g v).1,.int .i64 ((leads g v).2:Int)]):=by
 have an:=bG;refine aV.bl ai Tryz.func75 C C fun s I=>?_
 obtain ⟨lQ,eY⟩:=wS av;unfold gW;refine gy ?_;refine ae.b9 [0,1] C I (σ:=Nat×Nat×Nat) (fun q=>[(4,.int .i64 (q.1:Int)),(5,.int .i64 (q.2.1:Int))]) (fun _=>[]) (fun q=>q.1<g.length∧leads g v=rq g v q.2.2 (q.1:Int) q.2.1∧g.length≤q.1+q.2.2∧q.2.1≤q.1) (fun q=>g.length-q.1) (0,0,g.length) ⟨lQ,rfl,by simp,g9 _⟩ (cz C) a1 ?_;rintro ⟨j,n,f⟩ ⟨aH,aq,a7,az⟩ I
 try simp only at aH aq a7 az I ⊢
 obtain ⟨x,ab,bP⟩:=b5 (f:=e9) aH;have aT:=tB av ab;obtain ⟨f,rfl⟩:∃ k,f=k+1:=⟨f-1,by omega⟩;rw [rq,i9,show g.getD j default=x by rw [d5,ab];rfl] at aq;unfold e9 gL bg at bP;refine dL ?_;refine ae.cond C (fun aR=>?_) (fun aR=>?_);rotate_left
 ·rw [d9 w4] at aq
  rw [aq];refine ef ?_;exact bA I
 have aR:x.atom≥0:=by simpa using aR
 rw [g6 aR] at aq;have eo:=(kk ag).1 aT;obtain ⟨a,ve⟩:∃ a:Nat,x.atom=a:=⟨x.atom.toNat,by omega⟩;rw [ve,i9] at aq;rw [ve] at bP;refine bD ?_;refine aa.shr _ C C C C C C ag (r6 ag) ?_;refine aa.bits _ C C C C C C (q3 (n:=1) (Nat.lt_of_le_of_lt (Nat.shiftRight_le v a) au) ag) ?_;refine fK ?_;have an:=yY v a;refine ae.cond C (fun aF=>?_) (fun aF=>?_)
 ·rw [aF] at an
  rw [← an,g6 C] at aq;obtain ⟨y,ax⟩:∃ y:Nat,x.yes=y:=⟨x.yes.toNat,by omega⟩;rw [ax] at aq bP;refine bD ?_;exact bp.mk (y,n+1,f) I ⟨by show y<g.length;omega,by rw [aq],by show g.length≤y+f;omega,by show n+1≤y;omega⟩ ck a1 (by show g.length-y<g.length-j;omega)
 ·rw [aF] at an
  rw [← an,d9 ba] at aq;obtain ⟨y,ax⟩:∃ y:Nat,x.no=y:=⟨x.no.toNat,by omega⟩;rw [ax] at aq bP;refine bD ?_;exact bp.mk (y,n+1,f) I ⟨by show y<g.length;omega,by rw [aq],by show g.length≤y+f;omega,by show n+1≤y;omega⟩ ck a1 (by show g.length-y<g.length-j;omega)
theorem NI {g:List bw} (av:hn g=true) (v:Nat):∃ j x,(leads g v).1=(j:Nat)∧g[j]? = some x∧¬ x.atom≥0:=by
 obtain ⟨lQ,eY⟩:=wS av;suffices h:∀ (f j n:Nat),j<g.length→g.length≤j+f→∃ k x,(rq g v f (j:Int) n).1=(k:Nat)∧g[k]? = some x∧¬ x.atom≥0 from h g.length 0 0 lQ ba
 intro f
 induction f with
 | zero=>intro j n U ad;omega
 | succ f aX=>
  intro j n U ad;obtain ⟨x,ab,-⟩:=b5 (f:=e9) U;have aT:=tB av ab;rw [rq,i9,show g.getD j default=x by rw [d5,ab];rfl];by_cases aR:x.atom≥0
  ·rw [g6 aR]
   have eo:=(kk ag).1 aT;split
   ·obtain ⟨y,ax⟩:∃ y:Nat,x.yes=y:=⟨x.yes.toNat,by omega⟩
    rw [ax];exact aX y (n+1) ag ag
   ·obtain ⟨y,ax⟩:∃ y:Nat,x.no=y:=⟨x.no.toNat,by omega⟩
    rw [ax];exact aX y (n+1) ag ag
  ·rw [d9 aR];exact ⟨j,x,rfl,ab,aR⟩
theorem Xf (fv:af) (Go:List ao→a8→Prop) (fB:a8→Prop) (fL:af→a8→Prop) (eo:∀ x rem K,Go (x::rem) K→di d0 fv [x.bW] K (A' Go fB fL rem)) :
  ∀ (n:Nat) (f:ao),f.size≤n→n<bB→∀ (rest:List ao) (K:a8),Go (mJ f++rest) K→bF d0 149 [f.bW,fv] K (A' Go fB fL rest):=by
 have an:=bG;intro n
 induction n with
 | zero=>intro x h;have:=x.size_eq;omega
 | succ n aX=>
  intro f az i' rest K dw;have iD:=f.size_eq;have lG:=ao.q5 f.kids;rw [H2] at dw;refine bF.bl ai Tryz.func149 C C fun s I=>?_
  cases aE:f.c0 with
  | true=>
   rw [aE,g6 C] at dw;have aj:=eo f rest K dw;rw [ao.cp] at aj ⊢;unfold ao.cells at aj ⊢;have bY:f.op=2∨f.op=3∨f.op=4:=by unfold ao.c0 at aE;simp at aE;omega
   rcases bY with h|h|h
   all_goals
    rw [h] at aj ⊢;refine bD ?_;refine aa.gJ C C C C C C aj I (aI.all _) ?_ ?_
    ·rintro x aP (⟨⟨⟩,av⟩|⟨⟨⟩,ay⟩|⟨_,⟨⟩,_⟩) I
     all_goals rw [d7] at I ⊢
     ·refine eg ?_
      exact Fin.bt I C aO (aI.all _) (.inl ⟨rfl,av⟩)
     ·refine eg ?_
      exact Fin.bt I C aO (aI.all _) (.inr (.inl ⟨rfl,ay⟩))
    ·rintro x aP (⟨h,_⟩|⟨h,_⟩|⟨v,⟨⟩,aD⟩) I
     ·cases h
     ·cases h
     rw [d7] at I ⊢;exact Fin.fb I aO (aI.all _) (.inr (.inr ⟨_,rfl,aD⟩))
  | false=>
   rw [aE,d9 ba] at dw;have bY:f.op≠2∧f.op≠3∧f.op≠4:=by unfold ao.c0 at aE;simp at aE;omega
   rw [ao.cp];unfold ao.cells;refine dF ?_;refine aa.da 10 C cP ?_;refine ep ?_;refine aa.da 15 C cP ?_;refine fK ?_;refine ae.cond C (fun h=>by simp at h;omega) (fun _=>?_);refine jG ?_;refine ae.b9 [1,24,25] C I (σ:=Nat×a8) (fun q=>[(26,.int .i64 (q.1:Int))]) (fun q=>q.2) (fun q=>q.1≤f.kids.length∧Go (pw (f.kids.drop q.1)++rest) q.2) (fun q=>f.kids.length-q.1) (0,K) ⟨g8 _,dw⟩ (cz C) (aI.all _) ?_;rintro ⟨j,iH⟩ ⟨aH,dw⟩ I
   try simp only at aH dw I ⊢
   refine b8 ?_;refine ae.cond C (fun aw=>?_) (fun aY=>?_);rotate_left
   ·have aY:j=f.kids.length:=by simp at aY;omega
    rw [eG ag,pw,d8] at dw;refine ef ?_;exact Fin.bt I C aO (aI.all _) (.inl ⟨rfl,dw⟩)
   have aw:j<f.kids.length:=by simpa using aw
   obtain ⟨x,ab,bP⟩:=b5 (f:=ao.bW) aw;have dg:=ao.iQ (d6 ab);rw [drop_cons ab,pw,af9] at dw;have i1:=aX x ag ag _ iH dw;rw [ao.cp] at i1 bP;unfold ao.cells at i1 bP;refine dY ?_;refine aa.b7 C C C C C i1 I (aI.all _) ?_ ?_
   ·rintro y aP (⟨⟨⟩,av⟩|⟨⟨⟩,ay⟩|⟨_,⟨⟩,_⟩) I
    all_goals rw [d7] at I ⊢
    ·refine bD ?_
     exact bp.mk (j+1,aP) I ⟨aw,av⟩ ck (aI.all _) ph
    ·refine e8 ?_
     exact Fin.bt I C aO (aI.all _) (.inr (.inl ⟨rfl,ay⟩))
   ·rintro y aP (⟨h,_⟩|⟨h,_⟩|⟨v,⟨⟩,aD⟩) I
    ·cases h
    ·cases h
    rw [d7] at I ⊢;exact Fin.fb I aO (aI.all _) (.inr (.inr ⟨_,rfl,aD⟩))
theorem Xg (f:ao) (a7:f.size<bB):yu d0 148 [] [.br f.cells 0] [] ao.bW (mJ f):=by
 intro l Go fB fL o7 K bf;have hw:=Xf (lU l) Go fB fL (fun x rem K av=>o7 x rem K av) f.size f (g9 _) a7 [] K (by rw [d7];exact bf);rw [ao.cp] at hw;refine bF.bl ai Tryz.func148 C C fun s I=>?_
 rw [d8] at I ⊢;unfold ao.cells at *;refine kB ?_;refine aa.b7 C C C C C hw I (aI.all _) ?_ ?_
 ·rintro x aP (⟨⟨⟩,h⟩|⟨⟨⟩,h⟩|⟨_,⟨⟩,_⟩) I
  all_goals rw [d7] at I ⊢
  ·refine fK ?_
   exact Fin.bt I C aO (aI.all _) (.inl ⟨rfl,.inl h⟩)
  ·refine fK ?_
   exact Fin.bt I C aO (aI.all _) (.inl ⟨rfl,.inr h⟩)
 ·rintro x aP (⟨h,_⟩|⟨h,_⟩|⟨v,⟨⟩,h⟩) I
  ·cases h
  ·cases h
  rw [d7] at I ⊢;exact Fin.fb I aO (aI.all _) (.inr ⟨_,rfl,h⟩)
theorem Xh (f:ao):aV d0 101 [f.bW] (.func 148 [] [.br f.cells 0]):=by
 have an:=bG;refine aV.bl ai Tryz.func101 C C fun s I=>?_
 rw [ao.cp];unfold ao.cells;refine gT ?_;exact bA I
section
variable {P:Program} {Γ:cy} {N:Nat} {ops:Array Oper} {Q:b6→Env→al→Prop} {env:Env} {s:al} {l:List Oper} {o:Oper} {d:Nat} {L R:a8}
def H3 (s:al) (R:a8) (e:TypeId) (sz n:Nat) (xs:List af) (r:af) (ak:al):Prop:=
 ∃ aW ch cs',r=eh aW n ch∧ak=aS s ((.own aW,.box e cs')::R)∧Ok s ((.own aW,.box e cs')::R)∧cs'.length=ch*sz∧n≤ch∧cs'.take (n*sz)=xs
theorem NJ (z:Array Value) (k:Nat):(Builtin.zeroCells z k).toList.length=k*z.size:=by
 rw [ae9];simp [Builtin.zeroCells]
theorem NK (aQ:bO P Γ) {w:World} {p:bU} {S:al} (cg:dq w p S) {t bK e ty:TypeId} {it cx aG:bN} {bV sz:Nat} {olds:List Value} {xs ys:List af} {dm:bQ} {base:Option Addr} {n cap:Nat} {q0:Value}
  (aL:Γ.get? t=some it) (bq:it.bH = .aB e) (cW:Γ.get? bK=some cx) (dr:∀ k,cx.bH ≠ .int k) (bL:Γ.get? e=some aG) (U:aG.size=sz) (dO:af2 aG.zero.cells.size aG.size=true)
  (aC:bJ w p olds xs) (az:n*sz=xs.length) (s8:(Builtin.firstCells sz n (.slice base n cap)).run P w.drew = .ok olds.toArray w.drew) (ax:Rel w p q0 (.aB bV [.agg ys] dm)) (c6:bV=sz) (hP:ys.length=sz)
  (aw:cap<n+1) (an:(n+1)*aG.bytes≤140737488355328) (ed:n+1≤9223372036854775807) :
  ∃ aW ch cs' w',(Builtin.append_ #[t,bK] ty #[.slice base n cap,q0]).run P w = .ok (.slice (some ⟨aW,0,none⟩) (n+1) ch) w'∧S aW=none∧dc w p w' p∧Kept S (S.set aW (.box e cs')) w p w' p∧dq w' p (S.set aW (.box e cs')) ∧
   cs'.length=ch*sz∧n+1≤ch∧cs'.take ((n+1)*sz)=xs++ys:=by
 obtain ⟨info,d,g1,g2,g3,-⟩:=aQ.parts aL;obtain ⟨mM,c2,dT,dh,dJ,-⟩:=aQ.parts cW;obtain ⟨jO,kv,cF,dj,fe,eI,jP,jl⟩:=aQ.parts bL;have ay:d = .slice e:=by rw [bq] at g3;cases d<;>simp [ev] at g3;rw [g3]
 subst ay;have cq:∀ k,c2 ≠ .int k:=fun k e'=>by subst e';exact dr k dJ.symm
 obtain ⟨us,ie,pO,jQ,ke,s',ta,tb⟩:=qG ax (.inr c6);subst c6;have tO:bJ w p (flat us) ys:=by
  cases ie with
  | cons u _ vZ _ hu wH=>
  cases wH;cases hu with
  | agg c _ aF=>simpa [flat,Value.cells] using aF
 have mQ:=tO.length;have fz:=growslice_fits (need:=n+1) (old:=cap) (bytes:=aG.bytes) aw an;have cO:=zZ (ty:=ty) w g2 dh cq cF jl (base:=base) (sLen:=n) (sCap:=cap) (m:=1) (olds:=olds) (news:=flat us) (jQ P)
  (by rw [eI,U];exact s8) (by rw [eI,U];exact ke P w.drew (fun _ _ _=>rfl)) aw ag (by rw [jP];exact fz)
 have nx:n+1≤grownCap w (n+1) cap e:=by simp [grownCap,Question.cut]
 have gz:olds.length=n*bV:=by rw [aC.length,az]
 have oT:=ae0 dO;generalize s9:(Builtin.zeroCells aG.zero.cells (grownCap w (n+1) cap e-(n+1))).toList=aZ at cO;have mm:aZ.length=(grownCap w (n+1) cap e-(n+1))*bV:=by
  rw [← s9,NJ,oT,U]
 generalize grownCap w (n+1) cap e=G at cO nx mm;have wI:=x8 cg
 obtain ⟨ar,hle,aA,kZ⟩:=rQ wI (.cells (olds++flat us++aZ).toArray e (0,0)) (.box e (xs++ys++aZ.map fun _ => .any)) (fun w' iK au fs=>⟨_,iK,by
  refine bJ.append (bJ.append (fs _ _ (show bJ w.drew p olds xs from aC.mono kU)) (fs _ _ (tO.mono kU))) (bJ.Ay aZ),fun o aD=>absurd (cg.lt _ _ aD) (by show ¬ w.heap.size<w.heap.size;omega)⟩)
 rw [show w.drew.heap.size=w.heap.size from rfl] at ar aA kZ;have hm:(n+1)*bV=n*bV+bV:=aw6 n bV;refine ⟨w.heap.size,G,xs++ys++aZ.map (fun _=>af.any),_,cO,ar,kU.trans hle,(vQ (w:=w) (p:=p)).trans (kU (w:=w) (p:=p)).size aA,kZ,?_,nx,?_⟩
 ·simp only [f8,f0,mm]
  rw [← az,hP,← hm,← Nat.add_mul];congr 1;omega
 ·rw [ah6 cP,ag8 cP]
theorem a6.sv (aQ:bO P Γ) (I:Ok s L) {t bK e:TypeId} {x y:Operand} {it cx aG:bN} {dU bV sz:Nat} {ys:List af} {dm:bQ}
    (ah:o.op = .call { callee := .builtin .append,args := #[x,y],argTypes := #[t,bK] }) (aL:Γ.get? t=some it) (bq:it.bH = .aB e) (cW:Γ.get? bK=some cx) (dr:∀ k,cx.bH ≠ .int k)
    (bL:Γ.get? e=some aG) (U:aG.size=sz) (dO:af2 aG.zero.cells.size aG.size=true) (ab:aK env x=some (.aB dU [] .nil)) (ax:aK env y=some (.aB bV [.agg ys] dm)) (c6:bV=sz) (hP:ys.length=sz) (an:1*aG.bytes≤140737488355328)
    {X:af→al→Prop}:a6 P N o env (aS s L) (fun r ak=>H3 s L e sz 1 ys r ak) X:=by
  refine a6.ku ja fun ro B a w p aJ=>?_
  have gd:=aJ.aK ab;have fj:=aJ.aK ax;have eP:=fun val w'=>uP (P:=P) (a:=a) (val:=val) (w:=w) (w':=w') ah
  generalize ew:a.eval x=dQ at gd eP;generalize ff:a.eval y=fY at fj eP;have ts:dQ = .slice none 0 0:=by
    cases gd with
    | hV=>rfl
    | ir a _ _ h=>rcases h with h|h<;>cases h
    | aB g off n cap _ vs _ _ az=>exact absurd C az
  subst ts
  obtain ⟨aW,ch,cs',w',fr,gx,hv,iY,mn,mo,mY,mZ⟩:=NK (ty:=o.type) aQ aJ.wf (base:=none) (n:=0) (cap:=0) (olds:=[]) (xs:=[]) aL bq cW dr bL U dO .nil ba (by
    have:=run_firstCells_none (P:=P) w.drew sz 0 0 0
    simpa using this) fj c6 hP ag (by simpa using an) ag
  rw [af8] at fr mY mZ;exact ⟨_,w',_,p,_,eP _ _ fr,hv,iY,mn,⟨aW,ch,cs',rfl,rfl,⟨gx,I⟩,mo,mY,by simpa using mZ⟩,.hC _⟩
theorem a6.sw (aQ:bO P Γ) (I:Ok s L) {t bK e:TypeId} {x y:Operand} {it cx aG:bN} {b n cap bV sz:Nat} {cs ys:List af} {dm:bQ}
    (ah:o.op = .call { callee := .builtin .append,args := #[x,y],argTypes := #[t,bK] }) (aL:Γ.get? t=some it) (bq:it.bH = .aB e) (cW:Γ.get? bK=some cx) (dr:∀ k,cx.bH ≠ .int k)
    (bL:Γ.get? e=some aG) (U:aG.size=sz) (dO:af2 aG.zero.cells.size aG.size=true) (ab:aK env x=some (eh b n cap)) (ar:bo L (.own b) (.box e cs) R) (cj:cs.length=cap*sz) (az:n≤cap)
    (ax:aK env y=some (.aB bV [.agg ys] dm)) (c6:bV=sz) (hP:ys.length=sz) (dH:ys.all e7=true) (an:(n+1)*aG.bytes≤140737488355328) (ed:n+1≤9223372036854775807)
    {X:af→al→Prop}:a6 P N o env (aS s L) (fun r ak=>H3 s R e sz (n+1) (cs.take (n*sz)++ys) r ak) X:=by
  obtain ⟨cd,b1,ek⟩:=ar.perm I;refine a6.ku ja fun ro B a w p aJ=>?_
  have gd:=aJ.aK ab;have fj:=aJ.aK ax;have eP:=fun val w'=>uP (P:=P) (a:=a) (val:=val) (w:=w) (w':=w') ah
  generalize ew:a.eval x=dQ at gd eP;generalize ff:a.eval y=fY at fj eP;cases gd;obtain ⟨vs,cQ,cV,e3⟩:=aJ.wf.obj _ _ (ar.get I);have fs:vs.toList.length=cap*sz:=by rw [cV.length,cj]
  have p3:n*sz≤cap*sz:=am8 _ az;have hl:=cV.take (n*sz);have pQ:∀ w':World,(∀ j,w'.cell? ⟨b,j,none⟩=w.cell? ⟨b,j,none⟩)→(Builtin.firstCells sz n (.slice (some ⟨b,0,none⟩) n cap)).run P w' = .ok (vs.toList.take (n*sz)).toArray w':=by
    intro w' iK;refine run_firstCells_some (P:=P) w' sz n ⟨b,0,none⟩ n cap (vs.toList.take (n*sz)) (by rw [ae8,fs];omega) (fun j u hu=>?_);rw [lo,af8,iK,jE cQ];rw [ai2] at hu;split at hu
    · simpa using hu
    · cases hu
  by_cases aw:cap<n+1
  · obtain ⟨aW,ch,cs',w',fr,gx,hv,iY,mn,mo,mY,mZ⟩:=NK (ty:=o.type) aQ aJ.wf (base:=some ⟨b,0,none⟩) (n:=n) (cap:=cap) (olds:=vs.toList.take (n*sz)) (xs:=cs.take (n*sz)) aL bq cW dr bL U dO hl x1
      (pQ w.drew fun _=>rfl) fj c6 hP aw an ed
    have fX:al.Sub ((aS s R).set aW (.box e cs')) ((aS s L).set aW (.box e cs')):=by
      refine Di (k := .own aW) ?_;rw [cd];exact yn (k := .own b) (al.oU _) b1
    have av:aS s R aW=none:=by
      have h:=gx;rw [cd] at h;exact (al.uA h).2
    exact ⟨_,w',_,p,_,eP _ _ fr,hv,iY.sub fX,mn.sub fX,⟨aW,ch,cs',rfl,rfl,⟨av,ek⟩,mo,mY,mZ⟩,.hC _⟩
  · obtain ⟨info,d,g1,g2,g3,-⟩:=aQ.parts aL
    obtain ⟨mM,c2,dT,dh,dJ,-⟩:=aQ.parts cW;obtain ⟨jO,kv,cF,dj,fe,eI,jP,jl⟩:=aQ.parts bL;have ay:d = .slice e:=by rw [bq] at g3;cases d<;>simp [ev] at g3;rw [g3]
    subst ay;have cq:∀ k,c2 ≠ .int k:=fun k e'=>by subst e';exact dr k dJ.symm
    subst c6;obtain ⟨us,ie,pO,jQ,ke,s',ta,tb⟩:=qG (sz':=bV) fj (.inr rfl);have tO:bJ w p (flat us) ys:=by
      cases ie with
      | cons u _ vZ _ hu wH=>
      cases wH;cases hu with
      | agg c _ aF=>simpa [flat,Value.cells] using aF
    have mQ:=tO.length;have mx:∀ x∈flat us,x.oneCell'=true:=qE tO dH;have eO:vs.size=cap*bV:=by rw [← ae9];exact fs
    have hm:(n+1)*bV=n*bV+bV:=aw6 n bV;have adq:(n+1)*bV≤cap*bV:=am8 _ ag;have cO:=CQ (ty:=o.type) (P:=P) w g2 dh cq cF b n cap vs cQ (xv:=fY) (m:=1) (news:=flat us) (jQ P) (by rw [eI,U];exact ke P w (fun _ _ _=>rfl)) mx ag (by rw [eI,U,eO];omega);rw [eI,U] at cO;have hg:bJ w p (vs.toList.take (n*bV)++flat us++vs.toList.drop (n*bV+(flat us).length)) (cs.take (n*bV)++ys++cs.drop (n*bV+(flat us).length)):=bJ.append (bJ.append hl tO) (cV.drop _);have cc:(aS s L) b=some (.box e cs):=ar.get I
    obtain ⟨dn,ig,iz⟩:=vY aJ.wf cc (vs':=(vs.toList.take (n*bV)++flat us++vs.toList.drop (n*bV+(flat us).length)).toArray) (cs':=cs.take (n*bV)++ys++cs.drop (n*bV+(flat us).length)) (fun AA bu=>by
      rw [cQ] at bu;cases bu
      simp only [List.size_toArray,f8,ae8,ai5,fs]
      rw [eO];omega) (by simpa using hg) _ C
    obtain ⟨f1,f2⟩:=ar.put (.box e (cs.take (n*bV)++ys++cs.drop (n*bV+(flat us).length))) I;refine ⟨_,_,_,p,_,eP _ _ cO,dn,ig,iz,⟨b,cap,cs.take (n*bV)++ys++cs.drop (n*bV+(flat us).length),rfl,f1,f2,?_,by omega,?_⟩,.hC _⟩
    · simp only [f8,ae8,ai5,cj];omega
    · have:(cs.take (n*bV)++ys).length=(n+1)*bV:=by rw [f8,ae8,cj];omega
      rw [ah6 ag,ag8 ag]
theorem aa.sv (aQ:bO P Γ) (I:Ok s L) {t bK e:TypeId} {x y:Operand} {it cx aG:bN} {dU bV sz:Nat} {ys:List af} {dm:bQ} (av:guardOf ops env o=some true) (ay:o.dst=some d) (aT:aa' d N=true)
  (ah:o.op = .call { callee := .builtin .append,args := #[x,y],argTypes := #[t,bK] }) (aL:Γ.get? t=some it) (bq:it.bH = .aB e) (cW:Γ.get? bK=some cx) (dr:∀ k,cx.bH ≠ .int k)
  (bL:Γ.get? e=some aG) (U:aG.size=sz) (dO:af2 aG.zero.cells.size aG.size=true) (ab:aK env x=some (.aB dU [] .nil)) (ax:aK env y=some (.aB bV [.agg ys] dm)) (c6:bV=sz) (hP:ys.length=sz) (an:1*aG.bytes≤140737488355328)
  (h:∀ aW ch cs',cs'.length=ch*sz→1≤ch→cs'.take (1*sz)=ys→Ok s ((.own aW,.box e cs')::L)→aa P N ops l Q ((d,eh aW 1 ch)::env) (aS s ((.own aW,.box e cs')::L))):aa P N ops (o::l) Q env (aS s L):=by
 refine aa.op av ay aT (a6.sv aQ I ah aL bq cW dr bL U dO ab ax c6 hP an (X:=fun _ _=>False)) ?_ (fun _ _ h=>h.elim);rintro r ak ⟨aW,ch,cs',rfl,rfl,ad,aj,a',bz⟩;exact h aW ch cs' aj a' bz ad
theorem aa.sw (aQ:bO P Γ) (I:Ok s L) {t bK e:TypeId} {x y:Operand} {it cx aG:bN} {b n cap bV sz:Nat} {cs ys:List af} {dm:bQ} (av:guardOf ops env o=some true) (ay:o.dst=some d) (aT:aa' d N=true)
  (ah:o.op = .call { callee := .builtin .append,args := #[x,y],argTypes := #[t,bK] }) (aL:Γ.get? t=some it) (bq:it.bH = .aB e) (cW:Γ.get? bK=some cx) (dr:∀ k,cx.bH ≠ .int k)
  (bL:Γ.get? e=some aG) (U:aG.size=sz) (dO:af2 aG.zero.cells.size aG.size=true) (ab:aK env x=some (eh b n cap)) (ar:bo L (.own b) (.box e cs) R) (cj:cs.length=cap*sz) (az:n≤cap)
  (ax:aK env y=some (.aB bV [.agg ys] dm)) (c6:bV=sz) (hP:ys.length=sz) (dH:ys.all e7=true) (an:(n+1)*aG.bytes≤140737488355328) (ed:n+1≤9223372036854775807)
  (h:∀ aW ch cs',cs'.length=ch*sz→n+1≤ch→cs'.take ((n+1)*sz)=cs.take (n*sz)++ys→Ok s ((.own aW,.box e cs')::R)→aa P N ops l Q ((d,eh aW (n+1) ch)::env) (aS s ((.own aW,.box e cs')::R))):aa P N ops (o::l) Q env (aS s L):=by
 refine aa.op av ay aT (a6.sw aQ I ah aL bq cW dr bL U dO ab ar cj az ax c6 hP dH an ed (X:=fun _ _=>False)) ?_ (fun _ _ h=>h.elim);rintro r ak ⟨aW,ch,cs',rfl,rfl,ad,aj,a',bz⟩;exact h aW ch cs' aj a' bz ad
end
section
variable {J:al→Prop} {P:Program} {Γ:cy} {N:Nat} {Q:b6→Env→al→Prop} {env:Env} {s:al} {l:List Oper} {o:Oper} {d m:Nat} {L R:a8}
theorem bm.sv (i:Nat) (aQ:bO P Γ) (I:Ok s L) {t bK e:TypeId} {x y:Operand} {it cx aG:bN} {dU bV sz:Nat} {ys:List af} {dm:bQ} (aC:eK l.toArray m (idxs 0 l)=[i]) (aN:l.toArray[i]? = some o) (ay:o.dst=some d) (aT:aa' d N=true)
  (av:c4 l env o)
  (ah:o.op = .call { callee := .builtin .append,args := #[x,y],argTypes := #[t,bK] }) (aL:Γ.get? t=some it) (bq:it.bH = .aB e) (cW:Γ.get? bK=some cx) (dr:∀ k,cx.bH ≠ .int k)
  (bL:Γ.get? e=some aG) (U:aG.size=sz) (dO:af2 aG.zero.cells.size aG.size=true) (ab:aK (b2 l env o) x=some (.aB dU [] .nil)) (ax:aK (b2 l env o) y=some (.aB bV [.agg ys] dm)) (c6:bV=sz) (hP:ys.length=sz) (an:1*aG.bytes≤140737488355328)
  (aH:∀ aW ch cs',Ok s ((.own aW,.box e cs')::L)→cs'.length=ch*sz→J (aS s ((.own aW,.box e cs')::L)))
  (h:∀ aW ch cs',cs'.length=ch*sz→1≤ch→cs'.take (1*sz)=ys→Ok s ((.own aW,.box e cs')::L)→bm J P Γ N l.toArray Q (bX (m|||2^i)) ((d,eh aW 1 ch)::env) (aS s ((.own aW,.box e cs')::L))):bm J P Γ N l.toArray Q (bX m) env (aS s L):=by
 refine bm.one aC aN ay aT av (a6.sv aQ I ah aL bq cW dr bL U dO ab ax c6 hP an (X:=fun _ _=>False)) ?_ ?_ (fun _ _ h=>h.elim)
 ·rintro r ak ⟨aW,ch,cs',rfl,rfl,ad,aj,a',bz⟩
  exact .inl (aH aW ch cs' ad aj)
 ·rintro r ak ⟨aW,ch,cs',rfl,rfl,ad,aj,a',bz⟩
  exact h aW ch cs' aj a' bz ad
theorem bm.sw (i:Nat) (aQ:bO P Γ) (I:Ok s L) {t bK e:TypeId} {x y:Operand} {it cx aG:bN} {b n cap bV sz:Nat} {cs ys:List af} {dm:bQ} (aC:eK l.toArray m (idxs 0 l)=[i]) (aN:l.toArray[i]? = some o) (ay:o.dst=some d) (aT:aa' d N=true)
  (av:c4 l env o)
  (ah:o.op = .call { callee := .builtin .append,args := #[x,y],argTypes := #[t,bK] }) (aL:Γ.get? t=some it) (bq:it.bH = .aB e) (cW:Γ.get? bK=some cx) (dr:∀ k,cx.bH ≠ .int k)
  (bL:Γ.get? e=some aG) (U:aG.size=sz) (dO:af2 aG.zero.cells.size aG.size=true) (ab:aK (b2 l env o) x=some (eh b n cap)) (ar:bo L (.own b) (.box e cs) R) (cj:cs.length=cap*sz) (az:n≤cap)
  (ax:aK (b2 l env o) y=some (.aB bV [.agg ys] dm)) (c6:bV=sz) (hP:ys.length=sz) (dH:ys.all e7=true) (an:(n+1)*aG.bytes≤140737488355328) (ed:n+1≤9223372036854775807)
  (aH:∀ aW ch cs',Ok s ((.own aW,.box e cs')::R)→cs'.length=ch*sz→J (aS s ((.own aW,.box e cs')::R)))
  (h:∀ aW ch cs',cs'.length=ch*sz→n+1≤ch→cs'.take ((n+1)*sz)=cs.take (n*sz)++ys→Ok s ((.own aW,.box e cs')::R)→bm J P Γ N l.toArray Q (bX (m|||2^i)) ((d,eh aW (n+1) ch)::env) (aS s ((.own aW,.box e cs')::R))):bm J P Γ N l.toArray Q (bX m) env (aS s L):=by
 refine bm.one aC aN ay aT av (a6.sw aQ I ah aL bq cW dr bL U dO ab ar cj az ax c6 hP dH an ed (X:=fun _ _=>False)) ?_ ?_ (fun _ _ h=>h.elim)
 ·rintro r ak ⟨aW,ch,cs',rfl,rfl,ad,aj,a',bz⟩
  exact .inl (aH aW ch cs' ad aj)
 ·rintro r ak ⟨aW,ch,cs',rfl,rfl,ad,aj,a',bz⟩
  exact h aW ch cs' aj a' bz ad
end
section
variable {P:Program} {Γ:cy} {N:Nat} {env:Env} {s:al} {ops:Array Oper} {rest:List Oper} {Q:b6→Env→al→Prop} {L R:a8}
theorem NL:∀ (ys r:List af),uw ys.length (ys++r)=some ys
 | [],r=>by cases r<;>rfl
 | y::ys,r=>by rw [i0,ad',uw,NL ys r]
theorem NM:∀ (a r:List af),qB a.length (a++r)=some r
 | [],r=>rfl
 | y::ys,r=>by rw [i0,ad',qB];exact NM ys r
def H4 (i:bN):Bool:=match i.bH with
 | .struct _=>true
 | _=>false
theorem Xi {i:bN} {a ys z:List af} (U:H4 i=true) (aE:ys.length=i.size) {off:Nat} (aR:a.length=off):hK i (a++(ys++z)) off=some (.agg ys):=by
 unfold hK H4 at *;subst aR;rw [NM];simp only;split at U
 ·rename_i h;rw [h];simp only;rw [← aE,NL]
 ·cases U
theorem D3 {xss:List (List af)} {sz:Nat} (b':∀ c∈xss,c.length=sz):∀ {j:Nat} {ys:List af},xss[j]? = some ys→∃ a z,xss.flatten=a++(ys++z)∧a.length=j*sz∧∀ ys',(xss.set j ys').flatten=a++(ys'++z):=by
 induction xss with
 | nil=>intro j ys h;cases h
 | cons x r aX=>
  intro j ys h;cases j with
  | zero=>
   simp at h;subst h;exact ⟨[],r.flatten,by simp,by simp,fun ys'=>by simp⟩
  | succ j=>
   obtain ⟨a,z,U,ad,aj⟩:=aX (fun c aF=>b' c (i6 _ aF)) fV;refine ⟨x++a,z,by rw [as8,U,af9],by rw [f8,b' x i8,ad,aw6,aq1],fun ys'=>?_⟩;rw [List.set_cons_succ,as8,aj,af9]
theorem Xj {xss:List (List af)} {sz:Nat} (b':∀ c∈xss,c.length=sz):xss.flatten.length=xss.length*sz:=by
 induction xss with
 | nil=>simp
 | cons x r aX=>rw [as8,f8,b' x i8,aX (fun c aF=>b' c (i6 _ aF)),i0,aw6,aq1]
theorem NN {i:bN} {cs:List af} {xss:List (List af)} {n j:Nat} {ys:List af} (U:H4 i=true) (b':∀ c∈xss,c.length=i.size) (ab:cs.take (n*i.size)=xss.flatten) (aH:xss[j]? = some ys):hK i cs (j*i.size)=some (.agg ys):=by
 obtain ⟨a,z,ad,aj,-⟩:=D3 b' aH;have:cs=a++(ys++(z++cs.drop (n*i.size))):=by
  conv=>lhs;rw [← ai7 (n*i.size) cs,ab,ad]
  simp
 rw [this];exact Xi U (b' ys (d6 aH)) aj
theorem H5:∀ (ys ys' a z:List af),ys'.length=ys.length→eS a.length ys' (a++(ys++z))=a++(ys'++z)
  | [],[],a,z,_=>by simp [eS]
  | y::ys,NO::ys',a,z,h=>by
    have:=H5 ys ys' (a++[NO]) z fV;rw [f8,af9,af9] at this;rw [eS,al4 _ _ (g9 _),an6];exact this
theorem NP {sz:Nat} {cs:List af} {xss:List (List af)} {n j:Nat} {ys ys':List af} (b':∀ c∈xss,c.length=sz) (ab:cs.take (n*sz)=xss.flatten) (aH:xss[j]? = some ys) (aE:ys'.length=sz) :
  (eS (j*sz) ys' cs).length=cs.length∧(eS (j*sz) ys' cs).take (n*sz)=(xss.set j ys').flatten:=by
 obtain ⟨a,z,ad,aj,a'⟩:=D3 b' aH;have hP:=b' ys (d6 aH);have aF:cs=a++(ys++(z++cs.drop (n*sz))):=by
  conv=>lhs;rw [← ai7 (n*sz) cs,ab,ad]
  simp
 have hlen:(xss.flatten).length≤n*sz:=by rw [← ab,ae8];omega
 have bz:eS (j*sz) ys' cs=a++(ys'++(z++cs.drop (n*sz))):=by
  conv=>lhs;rw [aF,← aj]
  exact H5 ys ys' a _ ag
 refine ⟨by rw [bz];(conv=>rhs;rw [aF]);simp;omega,?_⟩;rw [bz,a'];by_cases ay:cs.length≤n*sz
 ·rw [List.drop_eq_nil_of_le ay,d7,ag8]
  have:(a++(ys'++z)).length=(a++(ys++z)).length:=by simp;omega
  rw [this,← ad];exact hlen
 ·have fG:(xss.flatten).length=n*sz:=by rw [← ab,ae8];omega
  have hs:(a++(ys'++z)).length=n*sz:=by rw [← fG,ad];simp;omega
  rw [show a++(ys'++(z++cs.drop (n*sz)))=(a++(ys'++z))++cs.drop (n*sz) by simp,ah6 ag,ag8 ag]
theorem dx.Bm {B:fO} {ro:Option Nat} {a:Act} {w:World} {p:bU} (h:dx N B ro env s a w p) {kb b n cap sz i:Nat} {T w7:TypeId} {cells cs:List af} {xss:List (List af)} (cE:kb≠b) (j2:s kb=some (.box T cells)) (aF:cells[i]? = some (eh b n cap)) (ar:s b=some (.box w7 cs)) (ab:cs.take (n*sz)=xss.flatten) (fg:xss.length=n)
  (b':∀ c∈xss,c.length=sz) (az:n≤cap) (hm:n≤9223372036854775807):∃ bj,dx N B ro env ((s.del b).set kb (.box T (cells.set i (.aB sz (xss.map af.agg) .bc)))) a w bj∧dc w p w bj∧Kept s ((s.del b).set kb (.box T (cells.set i (.aB sz (xss.map af.agg) .bc)))) w p w bj:=by
 obtain ⟨vs,U,ad,aj⟩:=h.wf.obj _ _ ar;have aw:b<w.heap.size:=(t8.1 U).1;have hle:dc w p w (p.ea b True):=⟨rfl,rfl,rfl,g9 _,fun _ _ h => .inl h,fun _ _ _=>rfl,fun _ _ h=>h⟩;have df:∀ v,Rel w p v (eh b n cap)→Rel w (p.ea b True) v (.aB sz (xss.map af.agg) .bc):=by
  intro v aC;cases aC;have hl:=ad.take (n*sz);rw [ab] at hl;obtain ⟨us,cd,b1,ek⟩:=GP hl b';refine .aB b 0 n cap sz us (xss.map af.agg) .bc ba (by rw [f0,fg]) ?_ (cd.mono hle) ek hm az (fun h=>by cases h) (fun b h=>by cases h);rw [b1];intro i v aN;refine ⟨.inr ⟨rfl,trivial⟩,?_⟩;rw [af8,jE U];rw [ai2] at aN;split at aN
  ·simpa using aN
  ·cases aN
 have aA:Kept s ((s.del b).set kb (.box T (cells.set i (.aB sz (xss.map af.agg) .bc)))) w p w (p.ea b True):=⟨fun _ _ _=>rfl,fun aW an fZ=>by
  have a':aW≠kb:=fun e=>by subst e;rw [j2] at fZ;cases fZ
  rw [al.fy _ _ a']
  by_cases e:aW=b
  ·subst e;exact al.nw _ _
  ·rw [al.mO _ e];exact fZ,fun aW o an fZ aD=>by
   rcases aD with aD|⟨rfl,_⟩
   ·exact aD
   ·rw [ar] at fZ;cases fZ⟩
 have cg:dq w (p.ea b True) ((s.del b).set kb (.box T (cells.set i (.aB sz (xss.map af.agg) .bc)))):=by
  refine ⟨fun aW o an=>?_,fun aW o aD=>by rcases aD with aD|⟨rfl,_⟩;exact h.wf.lt _ _ aD;exact aw⟩;have fa:aW≠b→∀ o,p.ea b True aW o↔p aW o:=fun e o=>⟨fun aD=>by rcases aD with aD|⟨e',_⟩;exact aD;exact absurd e' e,.inl⟩
  by_cases jD:aW=kb
  ·subst jD
   rw [al.gk] at an;cases an;obtain ⟨us,g1,g2,g3⟩:=h.wf.obj _ _ j2;obtain ⟨v,uC,qH⟩:=g2.get aF;have bz:=(g2.mono hle).set i (df v qH);have fG:us.toList.set i v=us.toList:=by
    apply ar0;intro k;rw [as7];split
    ·rename_i e;subst e
     split
     ·rw [uC]
     ·rename_i aw;rw [am4 ag]
    ·rfl
   rw [fG] at bz;exact ⟨us,g1,bz,fun o aD=>g3 o ((fa cE o).1 aD)⟩
  rw [al.fy _ _ jD] at an;by_cases e:aW=b
  ·subst e;rw [al.nw] at an;cases an
  ·rw [al.mO _ e] at an
   have ah:=h.wf.obj aW o an;have fa:=fa e;cases o with
   | box t c=>obtain ⟨us,g1,g2,g3⟩:=ah;exact ⟨us,g1,g2.mono hle,fun o aD=>g3 o ((fa o).1 aD)⟩
   | row t sz n=>obtain ⟨cur,g1,g2,g3,g4⟩:=ah;exact ⟨cur,g1,g2,g3,fun o=>(fa o).trans (g4 o)⟩
   | map es=>obtain ⟨cN,c,g1,g2,g3⟩:=ah;exact ⟨cN,c,g1,⟨g2.1.mono hle,g2.2.mono hle⟩,g3⟩
   | ll es it l c=>exact ah.qz hle C C
   | tick m=>exact ah
   | loop r env=>exact ⟨ah.1,fun t v h=>(ah.2 t v h).mono hle⟩
 exact ⟨_,h.step hle aA cg,hle,aA⟩
theorem ae.Bm {c:Code} (I:Ok s L) {kb b n cap sz:Nat} (i:Nat) {T w7:TypeId} {cells cs:List af} {xss:List (List af)} {dt:a8} (U:bo L (.own kb) (.box T cells) R) (ad:bo R (.own b) (.box w7 cs) dt) (aF:cells[i]? = some (eh b n cap)) (ab:cs.take (n*sz)=xss.flatten) (fg:xss.length=n) (b':∀ c∈xss,c.length=sz) (az:n≤cap) (hm:n≤9223372036854775807)
  (h:Ok s ((.own kb,.box T (cells.set i (.aB sz (xss.map af.agg) .bc)))::dt)→ae P N c Q env (aS s ((.own kb,.box T (cells.set i (.aB sz (xss.map af.agg) .bc)))::dt))):ae P N c Q env (aS s L):=by
 obtain ⟨g1,g2,g3,g4,g5⟩:=Nt (o'' := .box T (cells.set i (.aB sz (xss.map af.agg) .bc))) I U ad;intro tu B a w p eZ aJ;obtain ⟨bj,aj,a',bz⟩:=aJ.Bm g1 g2 aF g3 ab fg b' az hm;rw [g4] at aj bz;exact mh (h g5 tu B a w bj eZ aj) fun _ _ _ q=>q.after a' bz
end
abbrev yZ:=Option (Nat×Nat×List af)
def rr:yZ→List ao→af
 | none,_ => .aB 0 [] .nil
 | some (g,cap,_),l=>eh g l.length cap
def qe:yZ→a8
 | none=>[]
 | some (g,_,cs)=>[(.own g,.box 58 cs)]
def H6:yZ→List ao→Prop
 | none,l=>l=[]
 | some (_,cap,cs),l=>cs.length=cap*6∧l.length≤cap∧cs.take (l.length*6)=(l.map ao.cells).flatten
theorem H7 (l:List ao):∀ c∈l.map ao.cells,c.length=6:=fun c aF=>by obtain ⟨x,-,rfl⟩:=ag0.1 aF;rfl
def oy (cH:Nat) (f:ao):bQ×dC:=(.own cH,.box 58 f.cells)
theorem Xk (cH:Nat) (x f:ao) (ab:x.path.length<bB) (a7:f.path.length<bB):di d0 (.func 103 [] [.ptr cH 0]) [x.bW] [oy cH f] (fun o K=>o = .ret (.bool (h3 x f))∧K=[oy cH f]):=by
 have U:=MK x f ab a7;have U:aV d0 104 [x.bW,f.bW] (.bool (h3 x f)):=U;refine di.fk (first:=[]) (cap:=[.ptr cH 0]) ?_;refine bF.bl ai Tryz.func103 C C fun s I=>?_
 unfold oy at I ⊢;rw [ao.cp,ao.cp] at U;rw [ao.cp];unfold ao.cells at *;refine gK I ?_;intro I;exact Fin.bt I C aO (aI.all _) ⟨rfl,rfl⟩
theorem Xl (g cap:Nat) (cs:List af) (l:List ao) (aE:l.length<bB) (U:cs.length=cap*6) (ad:l.length≤cap) (aj:cs.take (l.length*6)=(l.map ao.cells).flatten) (cH:Nat) (f:ao) (a7:f.path.length<bB) (aD:∀ x∈l,x.path.length<bB) :
  bF d0 150 [eh g l.length cap,.func 103 [] [.ptr cH 0]] [(.own g,.box 58 cs),oy cH f]
   (fun o K=>o = .ret (.int .i64 (match l.findIdx? (fun x=>h3 x f) with
    | some i=>(i:Int)
    | none => -1))∧K=[(.own g,.box 58 cs),oy cH f]):=by
 have an:=bG;refine bF.bl ai Tryz.func150 C C fun s I=>?_
 unfold oy at I ⊢;refine dF ?_;refine aa.q1 ai C C C C C C C ?_;refine dL ?_;refine ae.b9 [0,1,7] C I (σ:=Nat) (fun j=>[(8,.int .i64 (j:Int))]) (fun _=>[(.own g,.box 58 cs),oy cH f]) (fun j=>j≤l.length∧∀ i x,i<j→l[i]? = some x→h3 x f=false) (fun j=>l.length-j) 0 ⟨g8 _,fun i x aN=>absurd aN (ao9 _)⟩ (cz C) (aI.all _) ?_;rintro j ⟨aH,aq⟩ I;unfold oy at I ⊢;refine b8 ?_;refine ae.cond C (fun aw=>?_) (fun aY=>?_);rotate_left
 ·have aY:j=l.length:=by simp at aY;omega
  have ab:l.findIdx? (fun x=>h3 x f)=none:=by
   rw [ah'];intro z bE;obtain ⟨i,aN⟩:=ag2 bE;have U:=oe aN;exact aq i z ag aN
  rw [ab];refine ef ?_;exact Fin.bt I C aO (aI.all _) ⟨rfl,rfl⟩
 have aw:j<l.length:=by simpa using aw
 obtain ⟨y,ax⟩:∃ y,l[j]? = some y:=⟨_,f7 aw⟩;have cX:=Xk cH y f (aD y (d6 ax)) a7;rw [ao.cp] at cX;unfold oy at cX;refine bD ?_;refine aa.fc ai j C C C C C C C C C C aw ?_;refine aa.ez ai I C C C C C C .here (NN C (H7 l) aj (by rw [af3,ax];rfl)) ?_;skip;refine aa.gJ rfl rfl rfl rfl rfl rfl cX I a1 ?_ (fun _ _ ⟨h,_⟩ _=>by cases h);rintro _ _ ⟨⟨⟩,rfl⟩ I;rw [ad',d8] at I ⊢;cases az:h3 y f with
 | true=>
  have ab:l.findIdx? (fun x=>h3 x f)=some j:=by
   rw [ah3];refine ⟨aw,by rw [(t7.1 ax).2];exact az,fun i aN=>?_⟩;have:=aq i l[i] aN (f7 ag);simpa using this
  rw [ab];refine e8 ?_;exact Fin.bt I C aO (.cons (.there .here) (.cons .here .nil)) ⟨rfl,rfl⟩
 | false=>
  refine bD ?_;refine bp.mk (j+1) I ⟨aw,fun i x aN ab=>?_⟩ ck (.cons (.there .here) (.cons .here .nil)) qb;rcases ah5.1 aN with aN|rfl
  ·exact aq i x aN ab
  ·rw [ax] at ab;cases ab;exact az
theorem Xm {α:Type} (q:α→Bool) (l:List α):(decide ((match l.findIdx? q with
  | some i=>(i:Int)
  | none => -1)≥0))=l.any q:=by
 cases h:l.findIdx? q with
 | none=>
  rw [ah'] at h;have:l.any q=false:=by rw [ak3];intro x ab;rw [h x ab];simp
  rw [this];rfl
 | some i=>
  rw [ah3] at h;obtain ⟨U,ad,-⟩:=h;have:l.any q=true:=ag5.2 ⟨_,am9 U,ad⟩;rw [this];simp
theorem Xn (bC:yZ) (l:List ao) (aE:l.length<bB) (ar:H6 bC l) (cH:Nat) (f:ao) (a7:f.path.length<bB) (aD:∀ x∈l,x.path.length<bB) :
  bF d0 102 [rr bC l,.func 103 [] [.ptr cH 0]] (qe bC++[oy cH f]) (fun o K=>o = .ret (.bool (l.any fun x=>h3 x f))∧K=qe bC++[oy cH f]):=by
 cases bC with
 | none=>
  have:l=[]:=ar;subst this;have h:=G5 (.func 103 [] [.ptr cH 0]) [] (fun _=>[oy cH f]) (fun _=>false) ec (fun j x h=>by cases h);refine bF.mono (bF.args (show cR [.aB 0 [] .nil,.func 103 [] [.ptr cH 0]] [.aB 6 ([].map ao.bW) .bc,.func 103 [] [.ptr cH 0]] from .cons aU.empty (.one aO)) h) ?_;rintro o K (⟨rfl,rfl,-⟩|⟨j,h,-⟩)
  ·exact ⟨rfl,rfl⟩
  ·exact absurd h (ao9 _)
 | some q=>
  obtain ⟨g,cap,cs⟩:=q;obtain ⟨U,ad,aj⟩:=ar;rw [← Xm];have h:=Xl g cap cs l aE U ad aj cH f a7 aD;show bF d0 102 [eh g l.length cap,.func 103 [] [.ptr cH 0]] [(.own g,.box 58 cs),oy cH f] _;refine bF.bl ai Tryz.func102 C C fun s I=>?_
  refine dF ?_;refine aa.b7 rfl rfl rfl rfl rfl h I (aI.all _) ?_ (fun _ _ ⟨h,_⟩ _=>by cases h);rintro _ _ ⟨⟨⟩,rfl⟩ I;rw [d7] at I ⊢;refine eA ?_;exact Fin.bt I C aO (aI.all _) ⟨rfl,rfl⟩
theorem D4 (i:Nat):∀ vs:List Nat,(fp i vs).length+(fq i vs).length=vs.length
  | []=>rfl
  | v::r=>by
    have:=D4 i r;unfold fp fq at *;cases h:v.testBit i<;>simp [aj5,h]<;>omega
theorem xh {i:Nat} {vs:List Nat} (h:((fp i vs).isEmpty||(fq i vs).isEmpty)=false):(fp i vs).length<vs.length∧(fq i vs).length<vs.length:=by
 have:=D4 i vs;rw [ak7] at h;have U:(fp i vs).length≠0:=by intro az;rw [av1.2 az] at h;simp at h
 have ad:(fq i vs).length≠0:=by intro az;rw [av1.2 az] at h;simp at h
 omega
theorem Xo {g g':List Nat→bI} {vs:List Nat} (h:∀ l:List Nat,l.length<vs.length→g l=g' l) (out:Option bI) (i:Nat):l9 g vs out i=l9 g' vs out i:=by
 unfold l9;cases he:(fp i vs).isEmpty||(fq i vs).isEmpty with
 | true=>rfl
 | false=>
  have:=xh he;rw [d9 ba,d9 ba,h _ this.1,h _ this.2]
theorem H8 {g g':List Nat→bI} {vs:List Nat} (h:∀ l:List Nat,l.length<vs.length→g l=g' l):∀ (is:List Nat) (out:Option bI),is.foldl (l9 g vs) out=is.foldl (l9 g' vs) out
 | [],_=>rfl
 | i::r,out=>by rw [ah4,ah4,Xo h,H8 h r]
theorem H9 (A:Nat) (h:Nat→List Int):∀ (f mW:Nat) (vs:List Nat),vs.length≤f→vs.length≤mW→nf A h f vs=nf A h mW vs
  | 0,mW,vs,U,_=>by
    have:vs=[]:=ax2.1 ag;subst this;cases mW with
    | zero=>rfl
    | succ mW=>rw [nf,nf,nO,g6 C]
  | f+1,0,vs,_,ad=>by
    have:vs=[]:=ax2.1 ag;subst this;rw [nf,nf,nO,g6 C]
  | f+1,mW+1,vs,U,ad=>by
    rw [nf,nf,H8 (g:=nf A h f) (g':=nf A h mW) (fun l aE=>H9 A h f mW l ag ag)]
def fF (A:Nat) (h:Nat→List Int) (vs:List Nat):bI:=nf A h vs.length vs
theorem y0 (A:Nat) (h:Nat→List Int) (vs:List Nat):fF A h vs=if nO h vs then .leaf (firstM h vs) else ((ah0 A).foldl (l9 (fF A h) vs) none).getD (.leaf []):=by
 have e:fF A h vs=nf A h (vs.length+1) vs:=H9 A h _ _ vs (g9 _) (aA6 _);rw [e,nf,H8 (g:=nf A h vs.length) (g':=fF A h) (fun l aE=>H9 A h _ _ l ag (g9 _))]
theorem xi (p:bR) (gen:Int):tN p gen=fF (ca p gen).length (c' p gen (ca p gen)) (e6 (bT p) (ca p gen)):=rfl
theorem bI.py:∀ t:bI,1≤t.leaves
 | .leaf _=>g9 1
 | .test _ a b=>by have:=a.py;have:=b.py;rw [bI.leaves];omega
theorem bI.D5:∀ t:bI,t.kC<t.leaves
  | .leaf _=>Nat.one_pos
  | .test _ a b=>by
    have:=a.D5;have:=b.D5;have:=a.py;have:=b.py;rw [bI.kC,bI.leaves];omega
theorem Xp {Pr:bI→Prop} {out:Option bI} {t:bI} (U:∀ o,out=some o→Pr o) (ad:Pr t):∀ o,xg out t=some o→Pr o:=by
 intro o h;unfold xg at h;cases out with
 | none=>cases h;exact ad
 | some x=>
  simp only at h;split at h
  ·cases h;exact ad
  ·cases h;exact U _ C
theorem Xq {Pr:bI→Prop} {g:List Nat→bI} {vs:List Nat} {out:Option bI} {i:Nat} (U:∀ o,out=some o→Pr o) (ad:((fp i vs).isEmpty||(fq i vs).isEmpty)=false→Pr (.test i (g (fq i vs)) (g (fp i vs)))):∀ o,l9 g vs out i=some o→Pr o:=by
 unfold l9;cases he:(fp i vs).isEmpty||(fq i vs).isEmpty with
 | true=>rw [g6 C];exact U
 | false=>rw [d9 ba];exact Xp U (ad he)
theorem D6 {Pr:bI→Prop} {g:List Nat→bI} {vs:List Nat}:∀ (is:List Nat) (out:Option bI),(∀ o,out=some o→Pr o)→(∀ i∈is,((fp i vs).isEmpty||(fq i vs).isEmpty)=false→Pr (.test i (g (fq i vs)) (g (fp i vs))))→∀ o,is.foldl (l9 g vs) out=some o→Pr o
  | [],_,U,_=>U
  | i::r,out,U,ad=>by
    rw [ah4];exact D6 r _ (Xq U (ad i i8)) (fun j aH=>ad j (i6 _ aH))
theorem H' {Pr:bI→Prop} {g:List Nat→bI} {vs:List Nat} {is:List Nat} {out:Option bI} {d:bI} (ay:Pr d) (U:∀ o,out=some o→Pr o) (ad:∀ i∈is,((fp i vs).isEmpty||(fq i vs).isEmpty)=false→Pr (.test i (g (fq i vs)) (g (fp i vs)))):Pr ((is.foldl (l9 g vs) out).getD d):=by
 cases h:is.foldl (l9 g vs) out with
 | none=>exact ay
 | some o=>exact D6 is out U ad o h
theorem xj (A:Nat) (h:Nat→List Int):∀ (n:Nat) (vs:List Nat),vs.length≤n→(fF A h vs).leaves≤max 1 vs.length
  | n,vs,az=>by
    rw [y0];split
    · rw [bI.leaves];omega
    · refine H' (Pr:=fun t=>t.leaves≤max 1 vs.length) (by rw [bI.leaves];omega) (fun _ h=>by cases h) (fun i _ he=>?_)
      have aE:=xh he;have ax:=D4 i vs;cases n with
      | zero=>omega
      | succ n=>
        have U:=xj A h n (fq i vs) ag;have ad:=xj A h n (fp i vs) ag;rw [bI.leaves];omega
theorem Xr (out:Option bI) (t:bI):∃ o,xg out t=some o:=by
 unfold xg;cases out with
 | none=>exact ⟨_,rfl⟩
 | some o=>simp only;split<;>exact ⟨_,rfl⟩
theorem NQ {g:List Nat→bI} {vs:List Nat}:∀ (is:List Nat) (out:Option bI),(out≠none∨∃ i∈is,((fp i vs).isEmpty||(fq i vs).isEmpty)=false)→∃ o,is.foldl (l9 g vs) out=some o
  | [],out,h=>by
    rcases h with h|⟨i,aN,_⟩
    · cases out with
      | none=>exact absurd C h
      | some o=>exact ⟨o,rfl⟩
    · cases aN
  | i::r,out,h=>by
    rw [ah4];refine NQ r _ ?_;unfold l9;cases he:(fp i vs).isEmpty||(fq i vs).isEmpty with
    | true=>
      rw [g6 C];rcases h with h|⟨j,aH,h⟩
      · exact .inl h
      · rcases af1.1 aH with rfl|aH
        · rw [he] at h;cases h
        · exact .inr ⟨j,aH,h⟩
    | false=>
      rw [d9 ba];obtain ⟨o,ah⟩:=Xr out (.test i (g (fq i vs)) (g (fp i vs)));exact .inl (by rw [ah];simp)
theorem D7 {α:Type} {l:List α} {x:α} (h:x∈l):l.isEmpty=false:=by cases l with|nil=>cases h|cons=>rfl
theorem Xs {A u v:Nat} {vs:List Nat} (hu:u∈vs) (au:v∈vs) (U:u<2^A) (ad:v<2^A) (cE:u≠v):∃ i∈ah0 A,((fp i vs).isEmpty||(fq i vs).isEmpty)=false:=by
 have hex:∃ i,u.testBit i≠v.testBit i:=Classical.byContradiction fun az=>cE (Nat.eq_of_testBit_eq fun i=>Classical.byContradiction fun h=>az ⟨i,h⟩)
 obtain ⟨i,aN⟩:=hex
 have Xt:i<A:=Nat.lt_of_not_le fun aY=>aN (by
  rw [an1 (ak8 U (ah7 ag aY)),an1 (ak8 ad (ah7 ag aY))])
 refine ⟨i,List.mem_range.2 Xt,?_⟩;rw [ak7];cases an:u.testBit i with
 | true=>
  have kf:v.testBit i=false:=by cases h:v.testBit i with|false=>rfl|true=>exact absurd (an.trans h.symm) aN
  exact ⟨D7 (ae3.2 ⟨hu,an⟩),D7 (ae3.2 ⟨au,by rw [kf];rfl⟩)⟩
 | false=>
  have kf:v.testBit i=true:=by cases h:v.testBit i with|true=>rfl|false=>exact absurd (an.trans h.symm) aN
  exact ⟨D7 (ae3.2 ⟨au,kf⟩),D7 (ae3.2 ⟨hu,by rw [an];rfl⟩)⟩
theorem Xu {h:Nat→List Int}:∀ {vs:List Nat},nO h vs=false→∃ u∈vs,∃ v∈vs,u≠v
  | v::r,a7=>by
    rw [nO] at a7;have:=aw4.1 a7;obtain ⟨u,hu,cE⟩:=this;exact ⟨u,i6 _ hu,v,i8,by rintro rfl;simp at cE⟩
theorem Ia {A:Nat} {h:Nat→List Int} {vs:List Nat} (h7:∀ v∈vs,v<2^A) (a7:nO h vs=false) (g:List Nat→bI):∃ o,(ah0 A).foldl (l9 g vs) none=some o:=by
 obtain ⟨u,hu,v,au,cE⟩:=Xu a7;exact NQ _ _ (.inr (Xs hu au (h7 u hu) (h7 v au) cE))
section
variable {P:Program} {Γ:cy} {N:Nat} {env:Env} {s:al} {ops:Array Oper} {rest:List Oper} {Q:b6→Env→al→Prop} {L R:a8}
theorem dx.ru {B:fO} {ro:Option Nat} {a:Act} {w:World} {p:bU} (h:dx N B ro env s a w p) {kb:Nat} {T:TypeId} {cells sx:List af} (j2:s kb=some (.box T cells)) (hle:cR cells sx) :
  dx N B ro env (s.set kb (.box T sx)) a w p∧Kept s (s.set kb (.box T sx)) w p w p:=by
 have aA:Kept s (s.set kb (.box T sx)) w p w p:=⟨fun _ _ _=>rfl,fun aW an fZ=>by
  have a':aW≠kb:=fun e=>by subst e;rw [j2] at fZ;cases fZ
  rw [al.fy _ _ a'];exact fZ,fun aW o an fZ aD=>aD⟩
 have cg:dq w p (s.set kb (.box T sx)):=by
  refine ⟨fun aW o an=>?_,h.wf.lt⟩;by_cases jD:aW=kb
  ·subst jD
   rw [al.gk] at an;cases an;obtain ⟨us,g1,g2,g3⟩:=h.wf.obj _ _ j2;exact ⟨us,g1,hle.rel g2,g3⟩
  ·rw [al.fy _ _ jD] at an
   exact h.wf.obj aW o an
 exact ⟨h.step (.refl w p) aA cg,aA⟩
theorem ae.ru {c:Code} (I:Ok s L) {kb:Nat} {T:TypeId} {cells:List af} (sx:List af) (U:bo L (.own kb) (.box T cells) R) (hle:cR cells sx)
  (h:Ok s ((.own kb,.box T sx)::R)→ae P N c Q env (aS s ((.own kb,.box T sx)::R))):ae P N c Q env (aS s L):=by
 obtain ⟨g1,g2⟩:=U.put (.box T sx) I;intro tu B a w p eZ aJ;obtain ⟨aj,bz⟩:=aJ.ru (U.get I) hle;rw [g1] at aj bz;exact mh (h g2 tu B a w p eZ aj) fun _ _ _ q=>q.after (.refl w p) bz
end
section
variable {P:Program} {Γ:cy} {N:Nat} {ops:Array Oper} {Q:b6→Env→al→Prop} {env:Env} {s:al} {l:List Oper} {o:Oper} {d:Nat}
theorem a6.D8 (aQ:bO P Γ) {t e:TypeId} {v:Value} {it aG:bN} {x:af} (ah:o.op = .buildSlice t 1 #[(0,.const v)]) (aL:Γ.get? t=some it) (bq:it.bH = .aB e) (he:Γ.get? e=some aG) (CJ:Nat.ble (1*aG.size) 16777216=true) (aF:hD v=some x) (b':af2 v.cells.size aG.size=true) :
  a6 P N o env s (fun r ak=>r = .aB aG.size [x] .clip∧ak=s) (fun _ _=>False):=by
 refine a6.ns ja fun ro B a w p aJ=>?_
 obtain ⟨info,d,U,ad,aj,-⟩:=aQ.parts aL;obtain ⟨mM,c2,n0,n1,vU,nr,KE,CI⟩:=aQ.parts he;have ay:d = .slice e:=by rw [bq] at aj;cases d<;>simp [ev] at aj;rw [aj]
 subst ay;have ar:=ae0 b';have hm:=Nat.le_of_ble_eq_true CJ;have b1:bJ w p [v] [x] := .cons _ _ _ _ (qC aF) .nil;have ek:∀ u∈[v],u.cells.size=aG.size:=fun u hu=>by rw [t6.1 hu];exact ar
 have kt:(flat [v]).length=1*aG.size:=by simp [flat,ar]
 have s0:∀ s3:Array Value,s3.size=1*aG.size→Instr.fill (fun i=>some (i*aG.size,aG.size)) s3 ((#[(0,Operand.const v)]:Array (Nat×Operand)).map fun x=>(x.1,a.eval x.2)).toList=some (flat [v]).toArray:=by
  intro s3 oT;have:=Kz aG.size [v] 0 [] s3.toList ba (by rw [ae9,oT];rfl) ek;simp only [d8] at this;simpa [Act.eval] using this
 refine gR.alloc (flat [v]).toArray e aJ.wf.lt (val := .slice (some ⟨w.heap.size,0,none⟩) 1 1) ?_ ?_
 ·unfold execOp
  rw [ah];refine gS ?_;have nv:¬ (1*aG.size>2^24):=by omega
  unfold Instr.buildSlice;simp only [ac',run_underlying ad,i5,sizeOf,typeInfo,run_program,n0,ae5,nr,d9 nv];by_cases bu:1*aG.size=0
  ·rw [g6 bu,ac',ae5,i5,s0 _ ba]
   rfl
  ·rw [d9 bu]
   simp only [zeroValue,typeInfo,ac',run_program,n0,CI,ae5,i5];rw [s0 _ ba];rfl
 ·refine .aB _ 0 _ _ _ [v] _ _ ba rfl ?_ (b1.mono (uv aJ.wf.lt _ _)) ek ?_ (g9 _) (fun _=>rfl) (fun b an=>by cases an)
  ·exact FF (w:=w) (p:=p) (flat [v]) e
  ·omega
theorem aa.D8 (aQ:bO P Γ) {t e:TypeId} {v:Value} {it aG:bN} {x:af} (av:guardOf ops env o=some true) (ay:o.dst=some d) (aT:aa' d N=true) (ah:o.op = .buildSlice t 1 #[(0,.const v)]) (aL:Γ.get? t=some it) (bq:it.bH = .aB e) (he:Γ.get? e=some aG) (CJ:Nat.ble (1*aG.size) 16777216=true) (aF:hD v=some x) (b':af2 v.cells.size aG.size=true)
  (h:aa P N ops l Q ((d,.aB aG.size [x] .clip)::env) s):aa P N ops (o::l) Q env s:=
 aa.op av ay aT (a6.D8 aQ ah aL bq he CJ aF b') (fun x ak ⟨U,ad⟩=>by subst U;subst ad;exact h) (fun _ _ h=>h.elim)
end
section
variable {P:Program} {Γ:cy} {N:Nat} {l:List Oper} {i:Nat} {rest:List Oper} {Q:b6→Env→al→Prop} {env:Env} {s:al} {o:Oper} {d:Nat}
theorem aM.vf {L R K:a8} {aem:ey→a8→Prop} {b:Nat} {ds:dC} {f:FuncId} {fR:Array Operand} {c3:Array TypeId} {xs:List af} (av:c4 l env o) (ay:o.dst=some d) (aT:aa' d N=true) (aC:eK l.toArray (2^i-1) (idxs 0 l)=[i])
  (bY:o.op = .call { callee := .value (.func f),args:=fR,argTypes:=c3 }) (aR:fP (b2 l env o) fR.toList=some xs) (h:bF P f xs K aem) (I:Ok s L) (ar:aI L K R)
  (aH:∀ x aP,aem (.ret x) aP→∃ dt,bo (aP++R) (.own b) ds dt)
  (aA:∀ x aP,aem (.ret x) aP→Ok s (aP++R)→aM (fun ak=>ak b=some ds) P Γ N l (i+1) rest Q ((d,x)::env) (aS s (aP++R))) (ab:∀ x aP,aem (.panic x) aP→Ok s (aP++R)→Q (.panic x) [] (aS s (aP++R))):aM (fun ak=>ak b=some ds) P Γ N l i (o::rest) Q env (aS s L):=
 aM.yB av ay aT aC (a6.b7 bY aR h I ar) (fun x ak ⟨aP,U,ad,aj⟩=>by subst U;obtain ⟨dt,hF⟩:=aH x aP aj;exact hF.get ad) (fun x ak ⟨aP,U,ad,aj⟩=>by subst U;exact aA x aP aj ad) (fun x ak ⟨aP,U,ad,aj⟩=>by subst U;exact ab x aP aj ad)
end
section
variable {P:Program} {N:Nat} {ops:Array Oper} {Q:b6→Env→al→Prop} {env:Env} {s:al} {l:List Oper} {o:Oper} {d:Nat}
theorem aa.sc {g:Operand} {name:String} {fR:Array Operand} {c3:Array TypeId} {t:TypeId} {v:af} {f:FuncId} {xs:List af} {r:af} (av:guardOf ops env o=some true) (ay:o.dst=some d) (aT:aa' d N=true)
  (ah:o.op = .call { callee := .invoke g name,args:=fR,argTypes:=c3 }) (au:aK env g=some (.iface t v)) (aR:fP env fR.toList=some xs) (hm:pS P t name f) (h:aV P f (v::xs) r)
  (aA:aa P N ops l Q ((d,r)::env) s):aa P N ops (o::l) Q env s:=
 aa.invoke av ay aT ah au aR hm (h s) (fun x ak ⟨U,ad⟩=>by cases U;subst ad;exact aA) (fun x ak ⟨U,_⟩=>by cases U)
end
section
variable {P:Program} {Γ:cy} {N:Nat} {l:List Oper} {i:Nat} {rest:List Oper} {Q:b6→Env→al→Prop} {env:Env} {s:al} {o:Oper} {d:Nat} {L R:a8}
theorem aM.jr (aQ:bO P Γ) (I:Ok s L) {t dS e0:TypeId} {x y:Operand} {ok:Bool} {it gI aG:bN} {m:Nat} {es:List (af×af)} {k z:af} {r:Option af} (av:c4 l env o) (ay:o.dst=some d) (aT:aa' d N=true)
  (ah:o.op = .lookup t x y ok) (aL:Γ.get? t=some it) (bq:it.bH = .map dS e0) (jk:Γ.get? dS=some gI) (bL:Γ.get? e0=some aG) (ab:aK (b2 l env o) x=some (.map m)) (ax:aK (b2 l env o) y=some k) (ar:bo L (.own m) (.map es) R)
  (a7:j' gI.bH k=true) (aC:iX es k=some r) (bE:hD aG.zero=some z) (h:aM (fun ak=>ak=aS s L) P Γ N l (i+1) rest Q ((d,lS ok z r)::env) (aS s L)):aM (fun ak=>ak=aS s L) P Γ N l i (o::rest) Q env (aS s L):=
 aM.calm av ay aT (fun _ e=>by subst e;exact a6.jr aQ I ah aL bq jk bL ab ax ar a7 aC bE) h
end
section
variable {J:al→Prop} {P:Program} {Γ:cy} {N:Nat} {l:List Oper} {i:Nat} {Q:b6→Env→al→Prop} {env:Env} {s:al} {o:Oper} {L R:a8}
theorem aM.mX (aQ:bO P Γ) (I:Ok s L) {t dS e0:TypeId} {x y z:Operand} {it gI:bN} {b:Nat} {es:List (af×af)} (du:List (af×af)) {k v:af} (av:c4 l env o) (ay:o.dst=none) (kj:kA l.toArray i=true)
  (bY:o.op = .mapUpdate t x y z∨o.op = .insert t x y z) (aL:Γ.get? t=some it) (bq:it.bH = .map dS e0) (jk:Γ.get? dS=some gI) (ab:aK (b2 l env o) x=some (.map b)) (ax:aK (b2 l env o) y=some k) (bE:aK (b2 l env o) z=some v)
  (ar:bo L (.own b) (.map es) R) (a7:j' gI.bH k=true) (aD:lR es k v=some du)
  (h:Ok s ((.own b,.map du)::R)→Q .normal env (aS s ((.own b,.map du)::R))):aM J P Γ N l i [o] Q env (aS s L):=
 aM.Hb av ay kj (a6.mX aQ I bY aL bq jk ab ax bE ar a7 aD (X:=fun _ _=>False)) (fun x ak ⟨U,ad⟩=>by subst U;exact h ad) (fun _ _ h=>h.elim)
end
def k9:bI→af
 | .leaf ms => .iface 154 (.agg [bg ms])
 | .test i a b => .iface 156 (.agg [.int .i64 (i:Int),k9 a,k9 b])
theorem Xv:pS d0 154 "consort/tree.size" 333 := Df f'
theorem Xw:pS d0 156 "consort/tree.size" 334 := Df f'
theorem Xx (ms:List Int):aV d0 333 [.agg [bg ms]] (.cu [.int .i64 0,.int .i64 1]):=by
 have an:=bG;refine aV.bl ai Tryz.func333 C C fun s I=>?_
 unfold bg;refine gT ?_;exact bA I
theorem tP:∀ t:bI,∃ ty v f,k9 t = .iface ty v∧pS d0 ty "consort/tree.size" f∧(t.leaves<2^40→aV d0 f [v] (.cu [.int .i64 (t.kC:Int),.int .i64 (t.leaves:Int)]))
  | .leaf ms=>⟨_,_,_,rfl,Xv,fun _=>Xx ms⟩
  | .test i a b=>by
    obtain ⟨t1,v1,f1,cd,na,cQ⟩:=tP a;obtain ⟨t2,v2,f2,b1,hA,cV⟩:=tP b;refine ⟨_,_,_,rfl,Xw,fun aE=>?_⟩;rw [bI.leaves] at aE;have cQ:=cQ ag;have cV:=cV ag;have U:=a.D5;have ad:=b.D5;rw [cd,b1,bI.kC,bI.leaves];refine aV.bl ai Tryz.func334 C C fun s I=>?_
    refine dF ?_;refine aa.sc C C C C C C na cQ ?_;refine hx ?_;refine aa.sc C C C C C C hA cV ?_;refine bD ?_;refine Fin.cG I C (aU.of_eq ?_);rw [ee (by split<;>omega) (by split<;>omega),ee ag ag];congr 3
    · congr 1
      split<;>omega
theorem Xy (a b:bI) (aR:a.leaves<2^40) (dR:b.leaves<2^40):aV d0 108 [k9 a,k9 b] (.bool (a.before b)):=by
 have an:=bG;refine aV.bl ai Tryz.func108 C C fun s I=>?_
 obtain ⟨t1,v1,f1,cd,na,cQ⟩:=tP a;obtain ⟨t2,v2,f2,b1,hA,cV⟩:=tP b;have cQ:=cQ aR;have cV:=cV dR;rw [cd,b1];unfold bI.before;refine dF ?_;refine aa.sc C C C C C C na cQ ?_;refine hx ?_;refine aa.sc C C C C C C hA cV ?_;by_cases U:a.kC<b.kC
 ·rw [g7 U,al9]
  refine hx ?_;refine aa.dy 22 C (g7 ag) ?_;refine eg ?_;exact bA I
 ·rw [H1 U,Bool.false_or]
  refine hx ?_;refine aa.da 22 C (H1 ag) ?_;by_cases ad:a.kC=b.kC
  ·rw [g7 ad,f5]
   refine ep ?_;refine aa.dy 26 C cP ?_;refine eA ?_;refine Fin.cG I C (aU.of_eq (ae7 af.bool ?_));rw [af4];simp
  ·rw [H1 ad,f6]
   refine ep ?_;refine aa.da 26 C cP ?_;refine eg ?_;exact bA I
theorem y1 {sz:Nat} {cs:List af} {xss:List (List af)} {n j k:Nat} {ys:List af} {v:af} (b':∀ c∈xss,c.length=sz) (ab:cs.take (n*sz)=xss.flatten) (aH:xss[j]? = some ys) (aA:k<sz) :
  (eS (j*sz+k) [v] cs).length=cs.length∧(eS (j*sz+k) [v] cs).take (n*sz)=(xss.set j (ys.set k v)).flatten:=by
 have hP:=b' ys (d6 aH);have h:=NP (ys':=ys.set k v) b' ab aH (by rw [ag3];exact hP);obtain ⟨a,z,ad,aj,-⟩:=D3 b' aH;have aF:cs=a++(ys++(z++cs.drop (n*sz))):=by
  conv=>lhs;rw [← ai7 (n*sz) cs,ab,ad]
  simp
 have e:eS (j*sz) (ys.set k v) cs=eS (j*sz+k) [v] cs:=by
  rw [pb]
  conv=>lhs;rw [aF,← aj]
  conv=>rhs;rw [aF,← aj]
  rw [H5 ys _ a _ (ag3 ..),al4 _ _ ag,ar',List.set_append_left _ _ ag]
 rw [e] at h;exact h
theorem NR {sz:Nat} {cs:List af} {xss:List (List af)} {n j k:Nat} {ys:List af} {v:af} (b':∀ c∈xss,c.length=sz) (ab:cs.take (n*sz)=xss.flatten) (aH:xss[j]? = some ys) (aA:ys[k]? = some v):cs[j*sz+k]? = some v:=by
 obtain ⟨a,z,ad,aj,-⟩:=D3 b' aH;have aF:cs=a++(ys++(z++cs.drop (n*sz))):=by
  conv=>lhs;rw [← ai7 (n*sz) cs,ab,ad]
  simp
 have qc:=(t7.1 aA).1;rw [aF,← aj,af0 ag,ar',af' qc];exact aA
abbrev Bn:=Option (Nat×Nat×List af)
def j3:Bn→List bw→af
 | none,_ => .aB 0 [] .nil
 | some (g,cap,_),l=>eh g l.length cap
def jy:Bn→a8
 | none=>[]
 | some (g,_,cs)=>[(.own g,.box 69 cs)]
def y2:Bn→List bw→Prop
 | none,l=>l=[]
 | some (_,cap,cs),l=>cs.length=cap*4∧l.length≤cap∧cs.take (l.length*4)=(l.map gL).flatten
theorem pz (l:List bw):∀ c∈l.map gL,c.length=4:=fun c aF=>by obtain ⟨x,-,rfl⟩:=ag0.1 aF;rfl
theorem y3 (l:List bw) (x:bw):((l++[x]).map gL).flatten=(l.map gL).flatten++gL x:=by simp
theorem qf:∀ (t:bI) (L:List bw),(bI.laid L t).length+1=L.length+2*t.leaves
  | .leaf ms,L=>by rw [bI.laid,bI.leaves,f8];rfl
  | .test i a b,L=>by
    have U:=qf a (L++[⟨i,0,0,[]⟩]);have ad:=qf b (bI.laid (L++[⟨i,0,0,[]⟩]) a);rw [bI.laid,bI.leaves,ag3];rw [f8,i0,af7] at U;omega
theorem y4:∀ (t:bI) (L:List bw) (j:Nat),j<L.length→(bI.laid L t)[j]? = L[j]?
  | .leaf ms,L,j,h=>by rw [bI.laid,af' h]
  | .test i a b,L,j,h=>by
    rw [bI.laid];rw [List.getElem?_set_ne ag,y4 b _ j (by have U:=qf a (L++[⟨i,0,0,[]⟩]);have ad:=a.py;rw [f8,i0,af7] at U;omega),y4 a _ j (by rw [f8];omega),af' h]
theorem Xz:∀ (t:bI) (L:List bw) (bC:Bn),y2 bC L→L.length+2*t.leaves<2^31 →
  bF d0 61 [j3 bC L,k9 t] (jy bC) (fun o K=>∃ rl,y2 rl (bI.laid L t)∧o = .ret (.cu [j3 rl (bI.laid L t),.int .i64 (L.length:Int)])∧K=jy rl):=by
 have n6:bB=1099511627776:=rfl;intro t
 induction t with
 | leaf ms=>
  intro L bC df bM;rw [bI.leaves] at bM;refine bF.bl ai Tryz.func61 C C fun s I=>?_
  rw [bI.laid];rcases bC with _|⟨g,cap,cs⟩
  ·have bu:L=[]:=df
   subst bu;unfold j3 jy k9 at *;refine dY ?_;refine aa.sv ai I C C C C C C C er C C C C C C C ec (fun dk gq gb cQ cV e3 I=>?_);refine bD ?_;exact Fin.bt I C aO (by simp only [jy];exact a1) ⟨some (dk,gq,gb),⟨cQ,cV,e3.trans (by simp;rfl)⟩,rfl,rfl⟩
  ·obtain ⟨U,ad,aj⟩:=df
   unfold j3 jy k9 at *;refine dF ?_;refine aa.q1 ai C C C C C C C ?_;refine dY ?_;refine aa.sw ai I C C C C C C C er C C C C aZ U ad C C C C (by show (L.length+1)*48≤_;omega) ag (fun dk gq gb cQ cV e3 I=>?_);refine bD ?_;exact Fin.bt I C (aU.of_eq (by simp [eh,j3])) (by simp only [jy];exact a1) ⟨some (dk,gq,gb),⟨cQ,u6,by rw [y3,f8,i0,af7,← aj];exact e3⟩,rfl,rfl⟩
 | test i a b pA xk=>
  intro L bC df bM;rw [bI.leaves] at bM;have adr:=a.py;have eD:=b.py;have XA:=qf a (L++[⟨i,0,0,[]⟩]);have AH:=qf b (bI.laid (L++[⟨i,0,0,[]⟩]) a);have D9:(L++[(⟨i,0,0,[]⟩:bw)]).length=L.length+1:=by simp
  rw [D9] at XA;have pN:(bI.laid (bI.laid (L++[⟨i,0,0,[]⟩]) a) b)[L.length]? = some ⟨i,0,0,[]⟩:=by
   rw [y4 b _ _ ag,y4 a _ _ ag,af0 (g9 _),an6];rfl
  have pA:=fun bC h=>pA (L++[⟨i,0,0,[]⟩]) bC h ag
  have xk:=fun bC h=>xk (bI.laid (L++[⟨i,0,0,[]⟩]) a) bC h ag
  have la:bI.laid L (.test i a b)=(bI.laid (bI.laid (L++[⟨i,0,0,[]⟩]) a) b).set L.length ⟨i,(L.length:Int)+1,((bI.laid (L++[⟨i,0,0,[]⟩]) a).length:Int),[]⟩:=rfl;rw [la];obtain ⟨aer,D',zU,wh,-,-⟩:=tP a;obtain ⟨Sq,z6,cH,Ib,-,-⟩:=tP b;simp only [wh] at pA;simp only [Ib] at xk;generalize eJ:bI.laid (L++[⟨i,0,0,[]⟩]) a=vc at *;generalize sy:bI.laid vc b=fE at *;refine bF.bl ai Tryz.func61 C C fun s I=>?_
  rcases bC with _|⟨g,cap,cs⟩
  ·have bu:L=[]:=df
   subst bu;unfold j3 k9;rw [wh,Ib];unfold jy at I ⊢;refine dY ?_;refine aa.nD 30 (.aB 4 [.agg (gL ⟨i,0,0,[]⟩)] .bc) C (aU.aB (.one (aU.agg (.cons aO (.cons aO (.cons aO (.one aU.empty))))))) ?_;refine aa.sv ai I C C C C C C C er C C C C C C C ec (fun dk gq gb cQ cV e3 I=>?_);have pA:=pA (some (dk,gq,gb)) ⟨cQ,cV,e3.trans ba⟩;simp only [j3,D9] at pA;refine bD ?_;refine aa.b7 C C C C C pA I (by simp only [jy];exact a1) ?_ (fun _ _ ⟨_,_,h,_⟩ _=>by cases h);rintro _ _ ⟨Ic,k0,⟨⟩,rfl⟩ I;rw [d7] at I ⊢;refine hx ?_;refine aa.b7 rfl rfl rfl rfl rfl (xk Ic k0) I (aI.all _) ?_ (fun _ _ ⟨_,_,h,_⟩ _=>by cases h);rintro _ _ ⟨rv,kV,⟨⟩,rfl⟩ I;rw [d7] at I ⊢;rcases rv with _|⟨g2,xl,XB⟩
   ·have bu:fE=[]:=kV
    rw [bu] at pN;cases pN
   obtain ⟨g1,g3,g4⟩:=kV;have jo:=y1 (k:=1) (v := .int .i64 (((([]:List bw)).length+1:Nat):Int)) (pz fE) g4 (by rw [af3,pN];rfl) ag
   have qP:=y1 (k:=2) (v := .int .i64 ((vc.length:Nat):Int)) (fun c aF=>by
    rcases al0 aF with aF|rfl
    ·exact pz fE c aF
    ·rfl) jo.2 (am2 nM) ag
   unfold jy at I ⊢;unfold j3;refine hx ?_;refine aa.fc ai (([]:List bw)).length C C C C C C C C C C ag ?_;refine ep ?_;refine aa.jv ai I _ C C C C C C C C C aZ (by rw [g1];show (([]:List bw)).length*4+1+1≤xl*4;omega) C (fun I=>?_);refine aa.fc ai (([]:List bw)).length C C C C C C C C C C ag ?_;refine ep ?_;refine aa.jv ai I _ C C C C C C C C C aZ (by rw [jo.1,g1];show (([]:List bw)).length*4+2+1≤xl*4;omega) C (fun I=>?_);refine bD ?_;refine Fin.bt I C aO (by simp only [jy];exact a1) ⟨some (g2,xl,_),⟨qP.1.trans (jo.1.trans g1),(by rw [ag3];exact g3),?_⟩,?_,rfl⟩
   ·rw [ag3]
    refine qP.2.trans ?_;rw [aw8,ap1];rfl
   ·simp only [ag3]
    try rfl
  ·obtain ⟨U,ad,aj⟩:=df
   unfold j3 k9;rw [wh,Ib];unfold jy at I ⊢;refine dF ?_;refine aa.q1 ai C C C C C C C ?_;refine dY ?_;refine aa.nD 30 (.aB 4 [.agg (gL ⟨i,0,0,[]⟩)] .bc) C (aU.aB (.one (aU.agg (.cons aO (.cons aO (.cons aO (.one aU.empty))))))) ?_;refine aa.sw ai I C C C C C C C er C C C C aZ U ad C C C C (by show (L.length+1)*48≤_;omega) ag (fun dk gq gb cQ cV e3 I=>?_);have pA:=pA (some (dk,gq,gb)) ⟨cQ,u6,by rw [y3,D9,← aj];exact e3⟩;simp only [j3,D9] at pA;refine bD ?_;refine aa.b7 C C C C C pA I (by simp only [jy];exact a1) ?_ (fun _ _ ⟨_,_,h,_⟩ _=>by cases h);rintro _ _ ⟨Ic,k0,⟨⟩,rfl⟩ I;rw [d7] at I ⊢;refine hx ?_;refine aa.b7 rfl rfl rfl rfl rfl (xk Ic k0) I (aI.all _) ?_ (fun _ _ ⟨_,_,h,_⟩ _=>by cases h);rintro _ _ ⟨rv,kV,⟨⟩,rfl⟩ I;rw [d7] at I ⊢;rcases rv with _|⟨g2,xl,XB⟩
   ·have bu:fE=[]:=kV
    rw [bu] at pN;cases pN
   obtain ⟨g1,g3,g4⟩:=kV;have jo:=y1 (k:=1) (v := .int .i64 (((L).length+1:Nat):Int)) (pz fE) g4 (by rw [af3,pN];rfl) ag
   have qP:=y1 (k:=2) (v := .int .i64 ((vc.length:Nat):Int)) (fun c aF=>by
    rcases al0 aF with aF|rfl
    ·exact pz fE c aF
    ·rfl) jo.2 (am2 nM) ag
   unfold jy at I ⊢;unfold j3;refine hx ?_;refine aa.fc ai (L).length C C C C C C C C C C ag ?_;refine ep ?_;refine aa.jv ai I _ C C C C C C C C C aZ (by rw [g1];show (L).length*4+1+1≤xl*4;omega) C (fun I=>?_);refine aa.fc ai (L).length C C C C C C C C C C ag ?_;refine ep ?_;refine aa.jv ai I _ C C C C C C C C C aZ (by rw [jo.1,g1];show (L).length*4+2+1≤xl*4;omega) C (fun I=>?_);refine bD ?_;refine Fin.bt I C aO (by simp only [jy];exact a1) ⟨some (g2,xl,_),⟨qP.1.trans (jo.1.trans g1),(by rw [ag3];exact g3),?_⟩,?_,rfl⟩
   ·rw [ag3]
    refine qP.2.trans ?_;rw [aw8,ap1];rfl
   ·simp only [ag3]
    try rfl
abbrev ko:=List (Int×af)
def qg (l:ko):List (af×af):=l.map fun e=>(.int .i64 e.1,e.2)
def oz (l:ko) (n:Int):Option af:=(l.find? fun e=>n==e.1).map (·.2)
def sA:ko→Int→af→ko
 | [],n,v=>[(n,v)]
 | e::r,n,v=>if n==e.1 then (n,v)::r else e::sA r n v
theorem Ie:∀ (l:ko) (n m:Int) (v:af),oz (sA l n v) m=if m=n then some v else oz l m
  | [],n,m,v=>by
    unfold sA oz;by_cases h:m=n
    · subst h;simp
    · have:(m==n)=false:=by simpa using h
      simp [h,this]
  | (k,x)::r,n,m,v=>by
    have aX:=Ie r n m v;rw [sA];by_cases h:n=k
    · subst h
      rw [g6 ba];unfold oz;by_cases ad:m=n
      · subst ad;simp
      · have:(m==n)=false:=by simpa using ad
        simp [ad,this]
    · rw [d9 fV]
      unfold oz at aX ⊢;by_cases ad:m=k
      · subst ad
        have:¬ m=n:=fun e=>h e.symm
        simp [this]
      · have aj:(m==k)=false:=by simpa using ad
        simp only [ax4,aj];exact aX
theorem vg (n:Int):∀ l:ko,iX (qg l) (.int .i64 n)=some (oz l n)
  | []=>rfl
  | (k,x)::r=>by
    have aX:=vg n r;unfold qg oz at *;rw [ae2,iX];by_cases h:n=k
    · subst h;simp [j9]
    · have aj:(n==k)=false:=by simpa using h
      simp only [j9,aj,ax4];simpa using aX
theorem vh (n:Int) (v:af):∀ l:ko,lR (qg l) (.int .i64 n) v=some (qg (sA l n v))
  | []=>rfl
  | (k,x)::r=>by
    have aX:=vh n v r;unfold qg at *;rw [ae2,lR,sA];by_cases h:n=k
    · subst h;simp [j9]
    · have aj:(n==k)=false:=by simpa using h
      simp only [j9,aj];simp [aX]
def oA (m:Nat):af := .agg [.int .u64 (m:Int)]
theorem NS (m c:Nat) (hm:m<2^64) (aF:c<64):aV d0 286 [oA m,.int .i64 (c:Int)] (oA (m|||2^c)):=by
 have an:=bG;refine aV.bl ai Tryz.func286 C C fun s I=>?_
 unfold oA
 repeat (first|(refine r2 ?_)|refine aa.jV I C C C C C C (fun b I=>?_)|refine aa.dK ai I C C C C C C C (fun cA I=>?_)|(refine T6 ?_))
 refine aM.arr ai 0 C C C C C C C C C C ag ?_;refine cv I ?_;intro I;refine aM.shl ((2^c:Nat):Int) C C C C C C ag (Dw aF) ?_;refine aM.bits ((m|||2^c:Nat):Int) C C C C C C (wL hm (ML aF)) ?_;refine aM.arr ai 0 C C C C C C C C C C ag ?_;refine cv I ?_;intro I;exact Fin.cG I (o6 C C (bo.get aZ I) C) aO
theorem XC (m n:Nat) (hm:m<2^64) (az:n<2^64):aV d0 287 [oA m,oA n] (oA (m|||n)):=by
 have an:=bG;refine aV.bl ai Tryz.func287 C C fun s I=>?_
 unfold oA
 repeat (first|(refine r2 ?_)|refine aa.jV I C C C C C C (fun b I=>?_)|refine aa.dK ai I C C C C C C C (fun cA I=>?_)|(refine T7 ?_))
 refine aa.arr ai 0 C C C C C C C C C C ag ?_;refine cv I ?_;intro I;refine aa.arr ai 0 C C C C C C C C C C ag ?_;refine cv I ?_;intro I;refine aa.bits ((m|||n:Nat):Int) C C C C C C (wL hm az) ?_;refine aa.arr ai 0 C C C C C C C C C C ag ?_;refine cv I ?_;intro I;exact Fin.cG I (o6 C C (bo.get aZ I) C) aO
theorem XD (h y:Int):eC d0 (.func 308 [] [.br [.int .i64 h] 0]) [.int .i64 y] (.bool (y != h)):=by
 have an:=bG;refine eC.fk (first:=[]) (cap:=[.br [.int .i64 h] 0]) ?_;refine aV.bl ai Tryz.func308 C C fun s I=>?_
 refine gT ?_;exact bA I
theorem XE {all:List (List Int)} {c:Int} {k:Nat} {m:List Int} (h:all[k]? = some m):free (all.drop k) c=(!(m.drop 1).contains c&&free (all.drop (k+1)) c):=by
 rw [drop_cons h];rfl
theorem XF (n b:Nat) (i':n<1000∧b<1000) (all:List (List Int)) (hm:q4 n b all):aV d0 293 [cZ all] (.cu [bg (merged all).1,.bool (merged all).2]):=by
 have an:=bG;refine aV.bl ai Tryz.func293 C C fun s I=>?_
 unfold cZ;have yy:total all≤n*b:=Dy hm;have UM:n*b≤1000*1000:=Nat.mul_le_mul ag ag;refine cB ?_;refine ae.ih I 3 1 0 fun I=>?_
 refine ae.b9 [] C I (σ:=Nat×List (List Int)×List Int×bQ) (fun q=>[(0,.aB 1 (q.2.1.map bg) .bc),(4,.aB 1 (q.2.2.1.map bb) q.2.2.2)]) (fun q=>[(q.2.2.2,.row 3 1 q.2.2.1.length)])
  (fun q=>merge q.1 q.2.1 q.2.2.1=merged all∧total q.2.1<q.1∧q4 n b q.2.1∧q.2.2.1.length+total q.2.1≤total all) (fun q=>q.1) (total all+1,all,[],.nil) ⟨rfl,Nat.lt_succ_self _,hm,by simp⟩ ⟨⟨_,rfl,aO⟩,⟨_,rfl,aU.nil hk⟩,trivial⟩ (aI.ei _) ?_
 rintro ⟨f,cur,acc,own⟩ ⟨dB,hl,hm,uI⟩ I;simp only at dB hl hm uI I ⊢;have cj:=hm.len;refine cB ?_;refine ae.b9 [0,4,14,15] C I (σ:=Nat×Bool) (fun z=>[(5,.bool z.2),(16,.int .i64 (z.1:Int))]) (fun _=>[(own,.row 3 1 acc.length)])
  (fun z=>z.1≤cur.length∧pick cur cur=pick cur (cur.drop z.1)∧(!z.2)=(cur.take z.1).all aq2) (fun z=>cur.length-z.1) (0,false) ⟨g8 _,rfl,rfl⟩ (cz C) (aI.ei _) ?_
 rintro ⟨j,GS⟩ ⟨aH,aq,iB⟩ I;simp only at aH aq iB I ⊢;refine b8 ?_;refine ae.cond C (fun aw=>?_) (fun aY=>?_);rotate_left
 ·have aY:j=cur.length:=by simp at aY;omega
  subst aY;rw [eG (g9 _)] at aq;rw [ae6] at iB;cases f with
  | zero=>omega
  | succ f=>
   rw [merge,aq] at dB;have dB:(acc,cur.all aq2)=merged all:=dB;rw [← dB,← iB];refine bD ?_;exact Fin.cG I C (aU.cu (.cons aU.bc (.one aO)))
 have aw:j<cur.length:=by simpa using aw
 obtain ⟨l,ax,c7⟩:=b5 (f:=bg) aw;have LQ:=hm.each l (d6 ax);have AI:(cur.take (j+1)).all aq2=((cur.take j).all aq2&&l.isEmpty):=by rw [hZ ax,ax6];simp
 unfold bg at c7;refine bD ?_;cases l with
 | nil=>
  rw [LO ax] at aq;refine ae.fH C ?_;refine ef ?_;exact bp.mk (j+1,GS) I ⟨aw,aq,by rw [AI,← iB];simp⟩ ck (aI.ei _) (by show cur.length-(j+1)<cur.length-j;omega)
 | cons c r=>
 rw [LP ax] at aq;refine ae.cond C (fun h=>absurd h cP) (fun _=>?_);refine jG ?_;refine ae.b9 [0,4,5,7,14,15,16,23,24] C I (σ:=Nat) (fun k=>[(25,.int .i64 (k:Int))]) (fun _=>[(own,.row 3 1 acc.length)]) (fun k=>k≤cur.length∧free cur c=free (cur.drop k) c) (fun k=>cur.length-k) 0 ⟨g8 _,rfl⟩ (cz C) (aI.ei _) ?_;rintro k ⟨aA,bf⟩ I;refine b8 ?_;refine ae.cond C (fun cl=>?_) (fun dd=>?_)
 ·have cl:k<cur.length:=by simpa using cl
  obtain ⟨m,pB,XG⟩:=b5 (f:=bg) cl;have hR:=hm.each m (d6 pB);rw [XE pB] at bf;have h8:=yw (m.drop 1) c (by rw [ai5];omega);unfold bg at h8 XG;rw [List.map_drop] at h8;have LR:((c::r).map bb)[0]? = some (.int .i64 c):=rfl;cases m with
  | nil=>
   have bf:free cur c=free (cur.drop (k+1)) c:=bf;refine cB ?_;exact bp.mk (k+1) I ⟨cl,bf⟩ ck (aI.ei _) (by show cur.length-(k+1)<cur.length-k;omega)
  | cons x q=>
   refine qZ ?_;refine aM.hG C C (fun _=>?_) (fun h=>absurd h ba);refine jH ?_;refine aM.slice 1 ((x::q).map bb).length C C C C C C C C (.inr C) (.inr ⟨_,_,rfl,rfl⟩) (.inl ⟨rfl,rfl,rfl⟩) (.inl ⟨rfl,rfl⟩) ba (g9 _) ?_;rw [ae6];refine db ?_;cases bz:((x::q).drop 1).contains c with
   | true=>
    rw [bz,aj',f6] at bf;rw [bf,d9 ba] at aq;refine bD ?_;exact bp.mk (j+1,true) I ⟨aw,aq,by rw [AI];simp⟩ ck (aI.ei _) (by show cur.length-(j+1)<cur.length-j;omega)
   | false=>
    rw [bz,aj3,f5] at bf;refine kh ?_;exact bp.mk (k+1) I ⟨cl,bf⟩ ck (aI.ei _) (by show cur.length-(k+1)<cur.length-k;omega)
 have dd:k=cur.length:=by simp at dd;omega
 subst dd;rw [eG (g9 _)] at bf;have bf:free cur c=true:=bf;rw [g6 bf] at aq;cases f with
 | zero=>omega
 | succ f=>
 have LS:=Dx (uR aq);rw [merge,aq] at dB;simp only at dB;have LR:((c::r).map bb)[0]? = some (.int .i64 c):=rfl;refine dY ?_;refine aa.gn ai I C C C C C C C er C C C C C C C C aZ hy ki ag (fun b0 I=>?_);refine bD ?_;obtain ⟨xs,dg⟩:∃ xs:Nat→List af,∀ j,xs j=((cur.take j).map (ft c)).map bg:=⟨_,fun _=>rfl⟩;have bu:xs 0=[]:=by rw [dg];rfl
 have fg:∀ j,(xs j).length≤cur.length:=fun j=>by
  rw [dg,f0,f0];exact al1 _ _
 refine ae.ih I 23 1 0 fun I=>?_
 refine ae.b9 [4,10,48,49] C I (σ:=Nat×bQ) (fun q=>[(50,.int .i64 (q.1:Int)),(11,.aB 1 (xs q.1) q.2)]) (fun q=>[(q.2,.row 23 1 (xs q.1).length),(.own b0,.row 3 1 (acc.length+1))]) (fun q=>q.1≤cur.length) (fun q=>cur.length-q.1) (0,.nil) (g8 _) ⟨⟨_,rfl,aO⟩,⟨_,rfl,by rw [bu];exact aU.nil hk⟩,trivial⟩ GC ?_;rintro ⟨i,uT⟩ aN I;simp only at aN I ⊢;refine b8 ?_;refine ae.cond C (fun jW=>?_) (fun kE=>?_)
 ·have jW:i<cur.length:=by simpa using jW
  obtain ⟨l,ax,c7⟩:=b5 (f:=bg) jW;have ar:=dg (i+1);rw [hZ ax,ae1,ae1,← dg] at ar;have ar:xs (i+1)=xs i++[.aB 1 ((ft c l).map bb) .bc]:=ar;have df:(xs (i+1)).length=(xs i).length+1:=by rw [ar];simp
  have lp:=fg i;have hw:=LM (.func 308 [] [.br [.int .i64 c] 0]) (fun y=>y != c) (fun y=>XD c y) l (by have:=(hm.each l (d6 ax)).1;omega);have hw:aV d0 307 [.aB 1 (l.map bb) .bc,.func 308 [] [.br [.int .i64 c] 0]] (.aB 1 ((ft c l).map bb) .bc):=hw;unfold bg at c7;refine db ?_;refine aa.gn ai I C C C C C C C er C C C C C C C C aZ hy pZ ag (fun eQ I=>?_);refine gf ?_;exact bp.mk (i+1,.own eQ) I jW ly (by show aI _ [(_,.row _ _ (xs (i+1)).length),_] _;rw [df];exact aI.ei _) GG
 ·have kE:i=cur.length:=by
   have:cur.length≤i:=by simpa using kE
   omega
  subst kE;have he:xs cur.length=(cur.map (ft c)).map bg:=by rw [dg,ae6]
  rw [he] at I ⊢;refine bD ?_;exact bp.mk (f,cur.map (ft c),acc++[c],.own b0) I ⟨dB,by show total (cur.map (ft c))<f;omega,hm.ft c,by show (acc++[c]).length+total (cur.map (ft c))≤total all;rw [f8,ag'];omega⟩ ⟨⟨_,rfl,aU.bc⟩,⟨_,rfl,aU.of_eq (by simp [bb])⟩,trivial⟩ (by show aI _ [(_,.row _ _ (acc++[c]).length)] _;rw [f8,ag'];exact (aI.ei _).there) (by show f<f+1;omega)
def jz (ps:List (List Int)) (ic:bQ) (us:List Nat) (gA:bQ) (mb:Nat):List af:=[.aB 1 (ps.map bg) ic,.aB 1 (us.map oA) gA,.map mb]
def gB (ct:Nat) (ps:List (List Int)) (ic:bQ) (us:List Nat) (gA:bQ) (mb:Nat) (fi:ko):a8:=
 [(.own ct,.box 327 (jz ps ic us gA mb)),(ic,.row 23 1 ps.length),(gA,.row 346 1 us.length),(.own mb,.map (qg fi))]
def XH (o:Option af) (l:List Int):Prop:=match l with
 | []=>o=none
 | x::r=>∃ v,o=some v∧aU v (.aB 1 ((x::r).map bb) .bc)
def ry (fi:ko) (os:List (List Int)):Prop:=∀ c:Nat,XH (oz fi (c:Int)) (os.getD c [])
def rz (os:List (List Int)) (l:List Int):Option (List (List Int)):=(iP os l).map fun r=>r++[l]
theorem XI (ct:Nat) (ps:List (List Int)) (ic:bQ) (us:List Nat) (gA:bQ) (mb:Nat) (fi:ko) (os:List (List Int)) (dD:ry fi os) (AK:∀ l∈os,l.length<1000) (c:Nat) (l:List Int) (aE:ps[c]? = some l) (mB:l.length≤3) (lA:∀ p∈l,0≤p) :
  bF d0 292 [.ptr ct 0,.int .i64 (c:Int)] (gB ct ps ic us gA mb fi) (fun o K=>o = .ret (uU (rz os l))∧K=gB ct ps ic us gA mb fi):=by
 have an:=bG;have pW:(ps.map bg)[c]? = some (.aB 1 (l.map bb) .bc):=by rw [af3,aE];rfl
 refine bF.bl ai Tryz.func292 C C fun s I=>?_
 unfold gB jz at I ⊢;refine gK I ?_;intro I;refine ae.ih I 23 1 0 fun I=>?_
 refine ae.b9 [0,1,15,16] C I (σ:=Nat×List (List Int)×bQ) (fun q=>[(17,.int .i64 (q.1:Int)),(6,.aB 1 (q.2.1.map bg) q.2.2)]) (fun q=>(q.2.2,.row 23 1 q.2.1.length)::gB ct ps ic us gA mb fi) (fun q=>q.1≤l.length∧q.2.1.length=q.1∧iP os l=pre (iP os (l.drop q.1)) q.2.1) (fun q=>l.length-q.1) (0,[],.nil) ⟨g8 _,rfl,(LX _).symm⟩ ⟨⟨_,rfl,aO⟩,⟨_,rfl,aU.nil hk⟩,trivial⟩ (by simp only [gB,jz];exact a1) ?_;rintro ⟨j,acc,own⟩ ⟨aH,m3,aq⟩ I;simp only [gB,jz] at aH m3 aq I ⊢;refine b8 ?_;refine ae.cond C (fun aw=>?_) (fun aY=>?_);rotate_left
 ·have aY:l.length≤j:=by simpa using aY
  rw [eG aY] at aq;have aq:iP os l=some (acc++[]):=aq;have kJ:rz os l=some (acc++[l]):=by unfold rz;rw [aq];simp
  rw [kJ];have GV:uU (some (acc++[l])) = .cu [.aB 1 (acc.map bg++[.aB 1 (l.map bb) .bc]) .bc,.bool true]:=by
   show af.cu [.aB 1 ((acc++[l]).map bg) .bc,.bool true]=_;rw [ae1];rfl
  rw [GV];refine cv I ?_;intro I;refine aa.gn ai I C C C C C C C er C C C C C C C C aZ hy pZ ag (fun b0 I=>?_);refine eA ?_;exact Fin.bt (K:=gB ct ps ic us gA mb fi) I C (aU.cu (.cons aU.bc (.one aO))) (by simp only [gB,jz];exact a1) ⟨rfl,rfl⟩
 have aw:j<l.length:=by simpa using aw
 obtain ⟨p,ax,c7⟩:=b5 (f:=bb) aw;rw [drop_cons ax,LY] at aq;have Ig:=lA p (d6 ax);have qh:=dD p.toNat;rw [Int.toNat_of_nonneg Ig] at qh;have jb:(os.getD p.toNat []).length<1000:=by
  rw [d5];cases h:os[p.toNat]? with
  | none=>simp
  | some x=>exact AK x (d6 h)
 generalize os.getD p.toNat []=ol at aq qh jb;have hw:=UI ol ag;unfold bb at c7;unfold bg at hw;refine cv I ?_;intro I;cases ol with
 | nil=>
  have aq:iP os l=none:=aq;have kJ:rz os l=none:=by unfold rz;rw [aq];rfl
  rw [kJ];have qh:oz fi p=none:=qh;refine aa.jr ai I C C C C C C C C C C aZ C (by rw [vg,qh]) C ?_;refine e8 ?_;exact Fin.bt (K:=gB ct ps ic us gA mb fi) I C (aU.cu (.cons (aU.nil hk) (.one aO))) (by simp only [gB,jz];exact a1) ⟨rfl,rfl⟩
 | cons x r=>
  obtain ⟨v,qh,Bo⟩:∃ v,oz fi p=some v∧aU v (.aB 1 ((x::r).map bb) .bc):=qh;refine aa.jr ai I C C C C C C C C C C aZ C (by rw [vg,qh]) C ?_;refine aa.nD 26 _ C Bo ?_;refine cv I ?_;intro I;refine aa.jr ai I C C C C C C C C C C aZ C (by rw [vg,qh]) C ?_;refine aa.nD 35 _ C Bo ?_;refine db ?_;refine aa.gn ai I C C C C C C C er C C C C C C C C aZ hy pZ ag (fun b0 I=>?_);refine gf ?_;exact bp.mk (j+1,acc++[ft 0 (x::r)],.own b0) I ⟨aw,by rw [f8,m3];rfl,aq⟩ Av (by show aI _ ((_,.row _ _ (acc++[ft 0 (x::r)]).length)::gB ct ps ic us gA mb fi) _;rw [f8,ag'];exact (by simp only [gB,jz];exact a1)) qb
def Bp (os:List (List Int)) (l:List Int) (c:Nat):List Int:=if c=0 then [0] else match rz os l with
 | none=>[]
 | some all=>if (merged all).2 then (c:Int)::(merged all).1++[0] else []
theorem NT {os:List (List Int)} {v:List Int} (c:Nat):(os++[v]).getD c []=if c=os.length then v else os.getD c []:=by
 rw [d5,d5];by_cases e:c=os.length
 ·subst e
  rw [g6 C,af0 (g9 _)];simp
 ·rw [d9 e]
  rcases ar6 c os.length with h|h
  ·rw [af' h]
  ·rw [am4 cP,am4 h]
theorem ry.tl {fi:ko} {os:List (List Int)} (h:ry fi os):ry fi (os++[[]]):=fun c=>by
 rw [NT];by_cases e:c=os.length
 ·have:=h c
  rw [g6 e];rw [e,d5,am4 (g9 _)] at this;rw [e];exact this
 ·rw [d9 e];exact h c
theorem ry.put {fi:ko} {os:List (List Int)} (h:ry fi os) {v:af} (x:Int) (r:List Int) (au:aU v (.aB 1 ((x::r).map bb) .bc)):ry (sA fi (os.length:Int) v) (os++[x::r]):=fun c=>by
 rw [NT,Ie];by_cases e:c=os.length
 ·subst e;rw [g6 C,g6 C];exact ⟨v,rfl,au⟩
 ·rw [d9 e,d9 ag];exact h c
theorem XJ (ct:Nat) (ps:List (List Int)) (ic:bQ) (us:List Nat) (gA:bQ) (mb:Nat) (fi:ko) (os:List (List Int)) (dD:ry fi os) (AK:∀ l∈os,l.length<1000) (l:List Int) (aE:ps[os.length]? = some l) (mB:l.length≤3) (lA:∀ p∈l,0≤p) (NU:∀ all,rz os l=some all→q4 4 21 all) (ads:os.length<100) :
  bF d0 288 [.ptr ct 0,.int .i64 (os.length:Int)] (gB ct ps ic us gA mb fi) (fun o K=>o = .ret (.cu [])∧∃ Ea,K=gB ct ps ic us gA mb Ea∧ry Ea (os++[Bp os l os.length])):=by
 have an:=bG;have y5:=XI ct ps ic us gA mb fi os dD AK os.length l aE mB lA;unfold Bp;refine bF.bl ai Tryz.func288 C C fun s I=>?_
 unfold gB jz at I;refine b8 ?_;refine ae.cond C (fun h=>?_) (fun h=>?_)
 ·have bu:os.length=0:=by have:=ai9 h;omega
  rw [g6 bu];refine cv I ?_;intro I;refine aa.mX ai I C C (.inl C) C C C C C C aZ C (vh _ _ _) (fun I=>?_);refine eg ?_;have az:=dD.put (v := .aB 1 [.int .i64 0] .clip) 0 [] aU.bc;rw [bu] at az;exact Fin.bt (K:=gB ct ps ic us gA mb (sA fi 0 (.aB 1 [.int .i64 0] .clip))) I C aO (by simp only [gB,jz];exact a1) ⟨rfl,_,rfl,az⟩
 have bu:os.length≠0:=by have:=of_decide_eq_false h;omega
 rw [d9 bu];cases Eb:rz os l with
 | none=>
  rw [Eb] at y5;unfold uU cZ gB jz at y5;refine dL ?_;refine aa.b7 rfl rfl rfl rfl rfl y5 I (aI.all _) ?_ (fun _ _ ⟨h,_⟩ _=>by cases h);rintro _ _ ⟨⟨⟩,rfl⟩ I;rw [d7] at I ⊢;refine eg ?_;exact Fin.bt (K:=gB ct ps ic us gA mb fi) I C aO (by simp only [gB,jz];exact a1) ⟨rfl,_,rfl,dD.tl⟩
 | some all=>
  rw [Eb] at y5;have hm:=XF 4 21 ag all (NU all Eb);unfold uU cZ gB jz at y5;unfold cZ at hm;simp only;refine dL ?_;refine aa.b7 rfl rfl rfl rfl rfl y5 I (aI.all _) ?_ (fun _ _ ⟨h,_⟩ _=>by cases h);rintro _ _ ⟨⟨⟩,rfl⟩ I;rw [d7] at I ⊢;cases wO:(merged all).2 with
  | false=>
   rw [wO] at hm;simp only [af6,ah9];refine cB ?_;exact Fin.bt (K:=gB ct ps ic us gA mb fi) I C aO (by simp only [gB,jz];exact a1) ⟨rfl,_,rfl,dD.tl⟩
  | true=>
   rw [wO] at hm;simp only [ag7];have hR:=GU (total all+1) all [];have yy:=Dy (NU all Eb);have G2:(merged all).1.length≤84:=by
    have:(merged all).1.length≤0+total all:=hR;omega
   generalize (merged all).1=y6 at hm G2 ⊢;unfold bg at hm;refine db ?_;refine ae.AM I 3 1 1 fun I=>?_
   refine ae.qS (dI [(ct,_)]) ai mixed C (bm.run (dI.one (bo.get aZ I)) C ?_);refine bm.oa 3 ai (dI.one (bo.get aZ I)) C C C C C C C C (fun _ h=>dI.fst h) bZ ?_;refine bm.run (dI.one (bo.get aZ I)) C ?_;refine bm.qY 8 ai I rfl rfl rfl rfl rfl rfl rfl rfl rfl er rfl rfl rfl rfl (.inr rfl) rfl (fun y ax=>by obtain ⟨z,-,rfl⟩:=ag0.1 ax;rfl) C .here C (n':=y6.length+1) cP cP cP (fun r9 I => .inl (dI.one (bo.get aZ I))) (fun r9 I=>?_);refine bm.run (dI.one (bo.get aZ I)) C ?_;refine bm.gn 10 ai I C C C C C C C C C er C C C C C C C C .here ba ki ag (fun uT I => .inl (dI.one (bo.get aZ I))) (fun uT I=>?_);refine bm.run (dI.one (bo.get aZ I)) C ?_;refine bm.mX 11 ai I C C C C (.inl C) C C C C C C aZ C (vh _ _ _) (fun _ => .inr C) (fun I=>?_);refine bd.done C ?_;skip;refine Fin.bt (K:=gB ct ps ic us gA mb (sA fi (os.length:Int) (.aB 1 ([af.int .i64 (os.length:Int)]++y6.map bb++[af.int .i64 0]) uT))) I C aO (by simp only [gB,jz];exact a1) ⟨rfl,_,rfl,dD.put _ _ ?_⟩;have:((os.length:Int)::(y6++[0])).map bb=[af.int .i64 (os.length:Int)]++y6.map bb++[af.int .i64 0]:=by simp [bb]
   rw [show y6.append [0]=y6++[0] from rfl,this];exact aU.bc
def qi (g:List (List Int)):List (List Int):=[[],[],[]]++g
theorem NV {g:List (List Int)} {c:Nat} (h:c<3+g.length):(qi g)[c]? = some (parents g c):=by
 unfold qi parents;by_cases aF:c<3
 ·rw [g6 aF,af' (by simpa using aF)]
  rcases c with _|_|_|c
  ·rfl
  ·rfl
  ·rfl
  ·omega
 ·rw [d9 aF,af0 cP,d5]
  simp only [i0,af7];rw [f7 ag];rfl
theorem XK (g:List (List Int)) (os:List (List Int)) (c:Nat) (aF:c≠0):Bp os (parents g c) c=order g os c:=by
 unfold Bp order rz lists;rw [d9 aF];cases iP os (parents g c)<;>rfl
theorem Bq (g:List (List Int)):∀ (n k:Nat),k≤n→(fC g n).take (k+1)=fC g k
  | 0,k,h=>by
    have:k=0:=by omega
    subst this;rfl
  | n+1,k,h=>by
    by_cases e:k=n+1
    · subst e
      rw [ag8 (by rw [tw];exact g9 _)]
    · rw [fC,ah6 (by rw [tw];omega)]
      exact Bq g n k ag
theorem XL (g:List (List Int)) {j:Nat} (aH:j<3+g.length):(fC g (2+g.length)).take (j+1)=(fC g (2+g.length)).take j++[Bp ((fC g (2+g.length)).take j) (parents g j) j]:=by
 cases j with
 | zero=>rw [Bq g _ 0 ag,al6];rfl
 | succ k=>
  rw [Bq g _ (k+1) ag,Bq g _ k ag,XK g _ _ ag,fC]
theorem XM {g:List (List Int)} (av:r7 g) {j:Nat} (aH:j<3+g.length):(∀ l∈(fC g (2+g.length)).take j,l.length<1000)∧∀ all,rz ((fC g (2+g.length)).take j) (parents g j)=some all→q4 4 21 all:=by
 have jX:=av.len;have ah:=AN av (2+g.length) ag;refine ⟨fun l aE=>by have:=ah.len l (List.mem_of_mem_take aE);omega,fun all h=>?_⟩;cases j with
 | zero=>
  have:parents g 0=[]:=rfl;rw [this] at h;have:rz ((fC g (2+g.length)).take 0) []=some [[]]:=rfl;rw [this] at h;cases h;exact ⟨by simp,fun l aE=>by rw [t6] at aE;subst aE;exact ⟨by simp,fun c aF=>by cases aF⟩⟩
 | succ k=>
  rw [Bq g _ k ag] at h;exact G1 av (AN av k ag) (c:=k+1) h
theorem XN (g:List (List Int)) (av:mA g=true) (ej:List Int) (cj:ej.length<bB) (nu:∀ c∈ej,0≤c∧c<3+(g.length:Int)) :
  bF d0 275 [cZ g,.aB 1 (ej.map bb) .bc] [] (fun o K=>∃ ct ic us gA mb fi,o = .ret (.cu [.ptr ct 0,.bool true])∧K=gB ct (qi g) ic us gA mb fi∧ry fi (fC g (2+g.length))):=by
 have an:=bG;have mq:=AJ av;have jX:=mq.len;have XO:=LN g ag;rw [av] at XO;refine bF.bl ai Tryz.func275 C C fun s I=>?_
 unfold cZ at *;have dn:ad5 .i64 (3+((g.map bg).length:Int))=3+(g.length:Int):=by rw [f0,ee ag ag]
 refine db ?_;refine ae.b9 [0,4,5,18,19] C I (σ:=Nat) (fun j=>[(20,.int .i64 (j:Int))]) (fun _=>[]) (fun j=>j≤ej.length) (fun j=>ej.length-j) 0 (g8 _) (cz C) a1 ?_;rintro j aH I;refine hx ?_;refine ae.cond C (fun aw=>?_) (fun aY=>?_)
 ·have aw:j<ej.length:=by simpa using aw
  obtain ⟨c,ax,c7⟩:=b5 (f:=bb) aw;obtain ⟨cQ,cV⟩:=nu c (d6 ax);unfold bb at c7;refine dL ?_;refine aa.da 26 C (H1 ag) ?_;refine fK ?_;refine ae.cond C (fun h=>by rw [dn] at h;simp at h;omega) (fun _=>?_);refine db ?_;exact bp.mk (j+1) I aw ck a1 (by show ej.length-(j+1)<ej.length-j;omega)
 clear aH aY;refine db ?_;refine aa.Hc ai I 3 (3+g.length) C C C C C C C C C C C (ae7 (fun z=>some (af.int .i64 z)) (dn.trans ag)) ag (by show _*24≤_;omega) ag (fun aeN I=>?_);skip;refine aa.rZ I C C C C (fun mb I=>?_)
 repeat (first|(refine r2 ?_)|refine aa.jV I C C C C C C (fun b I=>?_)|(refine Gy I ?_;clear I;intro I))
 refine aa.qY ai I rfl rfl rfl rfl rfl rfl rfl er rfl rfl rfl rfl (.inr rfl) rfl (fun y ax=>by obtain ⟨z,-,rfl⟩:=ag0.1 ax;rfl) C aZ C (n':=3+g.length) ba cP cP (fun ic I=>?_);refine aa.nD 47 (.aB 1 ((qi g).map bg) ic) C (aU.AO (.cons aU.empty (.cons aU.empty (.cons aU.empty (cR.refl _))))) ?_;refine cv I ?_;intro I;have gH:(qi g).length=3+g.length:=by unfold qi;simp;omega
 refine ae.wE I b (jz (qi g) ic [] .nil mb) aZ (.cons aO (.cons (aU.nil hk) (cR.refl _))) (fun I=>?_);refine ae.ih I 346 1 0 fun I=>?_
 refine ae.b9 [8,53,54] C I (σ:=Nat×List Nat×bQ) (fun q=>[(55,.int .i64 (q.1:Int))]) (fun q=>gB b (qi g) ic q.2.1 q.2.2 mb []) (fun q=>q.1≤3+g.length∧q.2.1.length=q.1∧∀ m∈q.2.1,m<2^64) (fun q=>3+g.length-q.1) (0,[],.nil) ⟨g8 _,rfl,by simp⟩ (cz C) (by rw [← gH] at I ⊢;exact (by simp only [gB,jz];exact a1)) ?_;rintro ⟨j,us,gA⟩ ⟨aH,kc,xe⟩ I;simp only [gB,jz] at aH kc xe I ⊢;refine hx ?_;refine ae.cond C (fun aw=>?_) (fun aY=>?_)
 ·have aw:j<3+g.length:=by rw [f0,gH] at aw;simp at aw;omega
  have ax:=NV aw;have c7:((qi g).map bg)[j]? = some (.aB 1 ((parents g j).map bb) .bc):=by rw [af3,ax];rfl
  obtain ⟨r8,o8⟩:=mq.parents j;generalize parents g j=l at ax c7 r8 o8;have U:=NS 0 j ec ag;have ad:=NS (0|||2^j) 0 (aj2 ec (ai4 ag ag)) ag;unfold oA at U ad
  repeat (first|(refine uN I ?_;clear I;intro I)|refine aa.dK ai I rfl rfl rfl rfl rfl rfl rfl (fun cA I=>?_)|(refine o4 ?_))
  refine ae.b9 [8,9,11,53,54,55,64,65] C I (σ:=Nat×Nat) (fun q=>[(66,.int .i64 (q.1:Int))]) (fun q=>(.own cA,.box 346 [.int .u64 (q.2:Int)])::gB b (qi g) ic us gA mb []) (fun q=>q.1≤l.length∧q.2<2^64) (fun q=>l.length-q.1) (0,0|||2^j|||2^0) ⟨g8 _,aj2 (aj2 ec (ai4 ag ag)) ec⟩ (cz C) (by simp only [gB,jz];exact a1) ?_;rintro ⟨k,m⟩ ⟨aA,hm⟩ I;simp only [gB,jz] at aA hm I ⊢;refine hx ?_;refine ae.cond C (fun cl=>?_) (fun dd=>?_)
  ·have cl:k<l.length:=by simpa using cl
   obtain ⟨p,aF,m2⟩:=b5 (f:=bb) cl;have adt:=o8 p (d6 aF);obtain ⟨q,rfl⟩:∃ q:Nat,p=q:=⟨p.toNat,by omega⟩;obtain ⟨u,hu,XP⟩:=b5 (f:=oA) (l:=us) (j:=q) ag;have zR:=XC m u hm (xe u (d6 hu));unfold bb at m2;unfold oA at zR XP;refine tm I ?_;intro I;exact bp.mk (k+1,m|||u) I ⟨cl,aj2 hm (xe u (d6 hu))⟩ ck (by simp only [gB,jz];exact a1) (by show l.length-(k+1)<l.length-k;omega)
  ·refine tn ?_
   refine ae.qS (dI [(b,_),(cA,_)]) ai mixed C (bm.run (dI.two (bo.get aZ I) (bo.get aZ I)) C ?_);refine bm.oa 4 ai (dI.two (bo.get aZ I) (bo.get aZ I)) C C C C C C C C (fun _ h=>dI.fst h) bZ ?_;refine bm.oa 5 ai (dI.two (bo.get aZ I) (bo.get aZ I)) C C C C C C C C (fun _ h=>dI.snd h) bZ ?_;refine bm.run (dI.two (bo.get aZ I) (bo.get aZ I)) C ?_;refine bm.gn 7 ai I C C C C C C C C C er C C C C C C C C aZ ba ki ag (fun uT I => .inl (dI.two (bo.get aZ I) (bo.get aZ I))) (fun XQ I=>?_);refine bm.run (dI.two (bo.get aZ I) (bo.get aZ I)) C ?_;refine bm.cM 10 ai I C C C C C C C C C C C aZ bZ (fun _ => .inr C) (fun I=>?_);refine bd.done C ?_;refine db ?_;have Gc:∀ x∈us++[m],x<2^64:=fun x ab=>by
    rcases ae4.1 ab with ab|ab
    ·exact xe x ab
    ·rw [t6] at ab;subst ab;exact hm
   have hR:(us++[m]).length=us.length+1:=by simp
   have XR:(us++[m]).map oA=us.map oA++[.agg [.int .u64 (m:Int)]]:=by simp [oA]
   exact bp.mk (j+1,us++[m],XQ) I ⟨aw,by rw [hR,kc],Gc⟩ ck (by simp only [gB,jz,hR,XR];exact a1) (by show 3+g.length-(j+1)<3+g.length-j;omega)
 have aY:j=3+g.length:=by rw [f0,gH] at aY;simp at aY;omega
 subst aY;refine cv I ?_;intro I;refine ae.b9 [8,94,95] C I (σ:=Nat×ko) (fun q=>[(96,.int .i64 (q.1:Int))]) (fun q=>gB b (qi g) ic us gA mb q.2) (fun q=>q.1≤3+g.length∧ry q.2 ((fC g (2+g.length)).take q.1)) (fun q=>3+g.length-q.1) (0,[]) ⟨g8 _,fun c=>by rw [al6];rfl⟩ (cz C) (by simp only [gB,jz];exact a1) ?_;rintro ⟨j,fi⟩ ⟨aH,dD⟩ I;simp only [gB,jz] at aH dD I ⊢;refine hx ?_;refine ae.cond C (fun aw=>?_) (fun aY=>?_)
 ·have aw:j<3+g.length:=by rw [f0,gH] at aw;simp at aw;omega
  obtain ⟨s5,qF⟩:=XM mq aw;obtain ⟨r8,o8⟩:=mq.parents j;have yy:((fC g (2+g.length)).take j).length=j:=by rw [ae8,tw];omega
  have y7:=XJ b (qi g) ic us gA mb fi _ dD s5 (parents g j) (by rw [yy];exact NV aw) r8 (fun p aD=>by have:=o8 p aD;omega) qF ag;rw [yy,← XL g aw] at y7;refine dL ?_;refine aa.b7 C C C C C y7 I (by simp only [gB,jz];exact a1) ?_ (fun _ _ ⟨h,_⟩ _=>by cases h);rintro _ _ ⟨⟨⟩,Ea,rfl,XS⟩ I;rw [d7] at I ⊢;refine db ?_;exact bp.mk (j+1,Ea) I ⟨aw,XS⟩ ck (aI.ei _) (by show 3+g.length-(j+1)<3+g.length-j;omega)
 have aY:j=3+g.length:=by rw [f0,gH] at aY;simp at aY;omega
 subst aY;rw [ag8 (by rw [tw];omega)] at dD;refine db ?_;exact Fin.bt I C aO (aI.ei _) ⟨b,ic,us,gA,mb,fi,rfl,rfl,dD⟩
theorem XT (g:List (List Int)) (av:g.length<bB):aV d0 254 [cZ g] (.int .i64 (if mA g then 0 else 2)):=by
 have an:=bG;refine aV.bl ai Tryz.func254 C C fun s I=>?_
 have U:=LN g av;unfold cZ at *
 repeat' (first|(with_reducible first|apply ae.seq|apply b4|apply fQ|apply ae.ret|apply ae.skip)|refine c5 C ?_|refine ae.cJ ?_|refine aa.nil ?_|refine cD C ?_|refine aa.eb C C C C C cw ?_|refine ae.cond C (fun h=>?_) (fun h=>?_))
 all_goals exact Fin.cG I C (aU.of_eq tH)
def NW (l:List Int):af:=if l.isEmpty then .cu [.aB 0 [] .nil,.int .i64 7] else .cu [bg l,.int .i64 0]
theorem XU (g:List (List Int)) (av:mA g=true) (c:Nat) (aF:c<3+g.length):aV d0 255 [cZ g,.int .i64 (c:Int)] (NW ((fC g (2+g.length)).getD c [])):=by
 have an:=bG;refine aV.bl ai Tryz.func255 C C fun s I=>?_
 have U:=XN g av [(c:Int)] cP (by intro x ab;rw [t6] at ab;subst ab;omega);have mq:=AJ av;have jX:=mq.len;have ah:=AN mq (2+g.length) ag;unfold cZ at *;have U:=bF.args (show cR [.aB 1 (g.map bg) .bc,.aB 1 [.int .i64 (c:Int)] .clip] [.aB 1 (g.map bg) .bc,.aB 1 ([(c:Int)].map bb) .bc] from .cons aO (.one aU.bc)) U;refine dF ?_;refine aa.b7 rfl rfl rfl rfl rfl U I .nil ?_ (fun _ _ ⟨_,_,_,_,_,_,h,_⟩ _=>by cases h);rintro _ _ ⟨ct,ic,us,gA,mb,fi,⟨⟩,rfl,dD⟩ I;rw [d7] at I ⊢;have Br:=dD c;have gz:((fC g (2+g.length)).getD c []).length<bB:=by
  rw [d5];cases h:(fC g (2+g.length))[c]? with
  | none=>simp;omega
  | some x=>have:=ah.len x (d6 h);show x.length<bB;omega
 generalize (fC g (2+g.length)).getD c []=l at Br gz;unfold gB jz at I ⊢;cases l with
 | nil=>
  have Br:oz fi (c:Int)=none:=Br;refine gK I ?_;intro I;refine aa.jr ai I C C C C C C C C C C aZ C (by rw [vg,Br]) C ?_;refine eg ?_;exact bA I
 | cons x r=>
  obtain ⟨v,qh,Bo⟩:∃ v,oz fi (c:Int)=some v∧aU v (.aB 1 ((x::r).map bb) .bc):=Br;have cj:=A2 (x::r) .bc gz;unfold bg at cj;refine gK I ?_;intro I;refine aa.jr ai I C C C C C C C C C C aZ C (by rw [vg,qh]) C ?_;refine aa.nD 22 _ C Bo ?_;refine cv I ?_;intro I;refine aa.jr ai I C C C C C C C C C C aZ C (by rw [vg,qh]) C ?_;refine aa.nD 30 _ C Bo ?_;refine db ?_;exact bA I
def tQ:af := .iface 298 (.agg [])
theorem XV (_u:Unit):aV d0 223 [.bool true] (.cu []):=by
 have an:=bG;refine aV.bl ai Tryz.func223 C C fun s I=>?_
 refine bD ?_;exact bA I
theorem XW (_u:Unit):bF d0 223 [.bool false] ([]) (fun o K=>o = .panic tQ∧K=[]):=by
 have an:=bG;refine bF.bl ai Tryz.func223 C C fun s I=>?_
 refine bD ?_;refine aa.panic C C C C ?_;exact Fin.fb I aO .nil ⟨rfl,rfl⟩
theorem NX (n:Int):aV d0 257 [.int .i64 n] (.bool (kF n)):=by
 have an:=bG;refine aV.bl ai Tryz.func257 C C fun s I=>?_
 repeat' (first|(with_reducible first|apply ae.seq|apply b4|apply ae.ret)|refine c5 C ?_|refine ae.cJ ?_|refine aa.nil ?_|refine cD C ?_|refine aa.skip C C C ?_|(fail_if_success refine aa.same true C ?_);(fail_if_success refine aa.same false C ?_);refine aa.hG C C (fun h=>?_) (fun h=>?_))
 all_goals (refine Fin.cG I C (aU.of_eq (ae7 af.bool ?_));clear I;unfold kF;grind)
theorem XX (c:fM) (aF:c.parents.length<bB):eC d0 (.func 232 [] []) [jc c] (bg c.parents):=by
 have an:=bG;refine eC.fk (first:=[]) (cap:=[]) ?_;refine aV.bl ai Tryz.func232 C C fun s I=>?_
 have U:=A2 c.parents .bc aF;unfold jc m4 bg at *;refine cB ?_;exact bA I
theorem XY (cs:List fM) (aE:cs.length<bB) (hE:∀ c∈cs,c.parents.length<bB):aV d0 231 [.aB 3 (cs.map jc) .bc,.func 232 [] []] (cZ (cs.map fM.parents)):=by
 have an:=bG;refine aV.bl ai Tryz.func231 C C fun s I=>?_
 obtain ⟨xs,dg⟩:∃ xs:Nat→List af,∀ j,xs j=((cs.take j).map fM.parents).map bg:=⟨_,fun _=>rfl⟩;have bu:xs 0=[]:=by rw [dg];rfl
 have fg:∀ j,(xs j).length≤cs.length:=fun j=>by
  rw [dg,f0,f0];exact al1 _ _
 unfold cZ;refine gy ?_;refine ae.ih I 23 1 0 fun I=>?_
 refine ae.b9 [1,8,9] C I (σ:=Nat×bQ) (fun q=>[(10,.int .i64 (q.1:Int)),(5,.aB 1 (xs q.1) q.2)]) (fun q=>[(q.2,.row 23 1 (xs q.1).length)]) (fun q=>q.1≤cs.length) (fun q=>cs.length-q.1) (0,.nil) (g8 _) ⟨⟨_,rfl,aO⟩,⟨_,rfl,by rw [bu];exact aU.nil hk⟩,trivial⟩ yJ ?_;rintro ⟨j,own⟩ aH I;simp only at aH I ⊢;refine b8 ?_;refine ae.cond C (fun aw=>?_) (fun aY=>?_);rotate_left;have aY:j=cs.length:=by
  have:cs.length≤j:=by simpa using aY
  omega
 ·subst aY
  have he:xs cs.length=(cs.map fM.parents).map bg:=by rw [dg,ae6]
  rw [he];have NY:=Vx ((cs.map fM.parents).map bg) own;refine db ?_;exact Fin.cG I C aU.bc
 have aw:j<cs.length:=by simpa using aw
 obtain ⟨c,ax,c7⟩:=b5 (f:=jc) aw;have ar:=dg (j+1);rw [hZ ax,ae1,ae1,← dg] at ar;have ar:xs (j+1)=xs j++[.aB 1 (c.parents.map bb) .bc]:=ar;have df:(xs (j+1)).length=(xs j).length+1:=by rw [ar];simp
 have lp:=fg j;have pn:=XX c (hE c (d6 ax));unfold jc m4 bg at *;refine dY ?_;refine aa.gn ai I C C C C C C C er C C C C C C C C aZ hy pZ ag (fun b0 I=>?_);refine gf ?_;refine bp.mk (j+1,.own b0) I aw ly AZ (by show cs.length-(j+1)<cs.length-j;omega)
structure gC (p:bR):Prop where
 cls:p.cm.length<bB
 each:∀ c∈p.cm,c.parents.length<bB∧c.bn.length<bB∧c.inits.length<bB
 dV:p.dV.length<bB
 Bs:p.methods.length<bB
 facts:∀ m∈p.methods,3*m.fact.size+3<bB
 nodes:p.nodes.length<bB
 kids:∀ x∈p.nodes,x.kids.length<bB
theorem NZ (p:bR) (aD:gC p):aV d0 188 [c9 p] (cZ (hb p)):=by
 have an:=bG;refine aV.bl ai Tryz.func188 C C fun s I=>?_
 have U:=XY p.cm aD.cls (fun c h=>(aD.each c h).1);unfold c9 c1;unfold cZ hb at *;refine cB ?_;exact bA I
theorem N0:∀ (l:List fM) (i:Nat) (c:fM),fD i (l++[c])=fD i l++ab' c.bn.length (((i+l.length:Nat):Int)+3)
  | [],i,c=>by simp [fD]
  | x::r,i,c=>by
    rw [ad',fD,N0 r (i+1) c,fD,af9];congr 3;rw [i0];omega
theorem N1 {l:List fM} {j:Nat} {c:fM} (h:l[j]? = some c):fD 0 (l.take (j+1))=fD 0 (l.take j)++ab' c.bn.length ((j:Int)+3):=by
 rw [hZ h,N0];have:=oe h;rw [ae8,Nat.min_eq_left ag,af8]
theorem N2 (l:List fM) (j:Nat):(fD 0 (l.take j)).length≤(fD 0 l).length:=by
 have key:∀ (l:List fM) (i j:Nat),(fD i (l.take j)).length≤(fD i l).length:=by
  intro l
  induction l with
  | nil=>intro i j;simp [fD]
  | cons c r aX=>
   intro i j;cases j with
   | zero=>simp [fD]
   | succ j=>
    rw [List.take_succ_cons,fD,fD,f8,f8];have:=aX (i+1) j;omega
 exact key l 0 j
theorem N3 (p:bR) (aD:gC p) (ah:(fD 0 p.cm).length<bB):aV d0 147 [c9 p] (fh (bT p)):=by
 have an:=bG;refine aV.bl ai Tryz.func147 C C fun s I=>?_
 have U:=NZ p aD;have cj:=aD.cls;unfold fh fl bT;simp only;unfold c9 c1 at *;unfold cZ at *
 repeat (first|(refine Dk ?_)|refine aa.jV I C C C C C C (fun b I=>?_)|refine aa.dK ai I C C C C C C C (fun cA I=>?_)|(refine T8 I ?_;clear I;intro I))
 rename_i Bt _;obtain ⟨xm,rfl⟩:∃ x,x=cA:=⟨_,rfl⟩;refine ae.wE I xm [.aB 1 ((hb p).map bg) .bc,.aB 1 [] .nil] .here (.cons aO (.one (aU.nil hk))) (fun I=>?_);refine ae.ih I 3 1 0 fun I=>?_
 refine ae.b9 [2,3,10,11] C I (σ:=Nat×bQ) (fun q=>[(12,.int .i64 (q.1:Int))]) (fun q=>[(.own xm,.box 62 [.aB 1 ((hb p).map bg) .bc,.aB 1 ((fD 0 (p.cm.take q.1)).map bb) q.2]),(q.2,.row 3 1 (fD 0 (p.cm.take q.1)).length),(.own Bt,.box 62 [.aB 0 [] .nil,.aB 0 [] .nil])])
  (fun q=>q.1≤p.cm.length) (fun q=>p.cm.length-q.1) (0,.nil) (g8 _) (cz C) a1 ?_
 rintro ⟨j,uy⟩ aH I;simp only at aH I ⊢;refine hx ?_;refine ae.cond C (fun aw=>?_) (fun aY=>?_);rotate_left
 ·have aY:j=p.cm.length:=by simp at aY;omega
  subst aY;rw [ae6] at I ⊢;refine cv I ?_;intro I;exact Fin.cG I (o6 C C (bo.get aZ I) C) (aU.agg (.cons aO (.one aU.bc)))
 have aw:j<p.cm.length:=by simpa using aw
 obtain ⟨c,ax,c7⟩:=b5 (f:=jc) aw;have hE:=(aD.each c (d6 ax)).2.1;have aL:=N1 ax;have hle:=N2 p.cm (j+1);have iz:ad5 .i64 ((j:Int)+3)=(j:Int)+3:=ee ag ag;rw [aL,f8,List.length_replicate] at hle;generalize fD 0 (p.cm.take j)=os at I aL hle ⊢;unfold jc m4 bg at c7
 repeat (first|(refine Au I ?_;clear I;intro I)|refine aa.dK ai I rfl rfl rfl rfl rfl rfl rfl (fun cA I=>?_))
 refine ae.b9 [2,3,4,10,11,12,18,19] C I (σ:=Nat×bQ) (fun q=>[(20,.int .i64 (q.1:Int))]) (fun q=>[(.own xm,.box 62 [.aB 1 ((hb p).map bg) .bc,.aB 1 ((os++ab' q.1 ((j:Int)+3)).map bb) q.2]),(q.2,.row 3 1 (os++ab' q.1 ((j:Int)+3)).length),(.own Bt,.box 62 [.aB 0 [] .nil,.aB 0 [] .nil])])
  (fun q=>q.1≤c.bn.length) (fun q=>c.bn.length-q.1) (0,uy) (g8 _) (cz C) (by simp only [List.replicate_zero,d7];exact a1) ?_
 rintro ⟨k,b0⟩ aA I;simp only at aA I ⊢;refine b8 ?_;refine ae.cond C (fun cl=>?_) (fun dd=>?_);rotate_left
 ·have dd:k=c.bn.length:=by simp at dd;omega
  subst dd;rw [← aL] at I ⊢;refine bD ?_;exact bp.mk (j+1,b0) I aw ck a1 yQ
 have cl:k<c.bn.length:=by simpa using cl
 have hg:(os++ab' k ((j:Int)+3)).length=os.length+k:=by simp
 have Ih:(os++ab' (k+1) ((j:Int)+3)).map bb=(os++ab' k ((j:Int)+3)).map bb++[.int .i64 (ad5 .i64 ((j:Int)+3))]:=by rw [iz,List.replicate_succ',← af9,ae1];rfl
 have Ii:(os++ab' (k+1) ((j:Int)+3)).length=(os++ab' k ((j:Int)+3)).length+1:=by simp;omega
 refine cv I ?_;intro I;refine aa.gn ai I C C C C C C C er C C C C C C C C aZ ba ki ag (fun eQ I=>?_);refine gK I ?_;intro I;exact bp.mk (k+1,.own eQ) I cl (by repeat (first|exact trivial|refine ⟨⟨_,rfl,aO⟩,?_⟩|refine ⟨⟨_,rfl,aU.of_eq (by (first|rw [iN ag]))⟩,?_⟩)) (by simp only [Ii,Ih];exact a1) DS
theorem XZ (_u:Unit):aV d0 304 [.int .u64 0] (.int .i64 0):=by
 have an:=bG;refine aV.bl ai Tryz.func304 C C fun s I=>?_
 refine bD ?_;refine aa.Ab ai 0 C C C C C C C C ec C ?_;refine bD ?_;exact bA I
theorem X0 (_u:Unit):aV d0 290 [.int .u64 0] (.int .i64 0):=by
 have an:=bG;refine aV.bl ai Tryz.func290 C C fun s I=>?_
 have U:=XZ ();refine cB ?_;exact bA I
theorem X1 (_u:Unit):aV d0 294 [.aB 0 [] .nil,.int .i64 0,.int .i64 0] (.cu []):=by
 have an:=bG;refine aV.bl ai Tryz.func294 C C fun s I=>?_
 refine gy ?_;refine ae.b9 [1,2] C I (σ:=Unit) (fun _=>[(6,.int .i64 1)]) (fun _=>[]) (fun _=>True) (fun _=>0) () trivial (cz C) a1 ?_;rintro _ _ I;refine bD ?_;exact bA I
theorem X2 (_u:Unit):aV d0 289 [.aB 0 [] .nil,.int .i64 0,.int .i64 0,.int .i64 0] (.cu []):=by
 have an:=bG;refine aV.bl ai Tryz.func289 C C fun s I=>?_
 have U:=X1 ();refine gy ?_;refine ae.b9 [0,1,2,3] C I (σ:=Unit) (fun _=>[]) (fun _=>[]) (fun _=>True) (fun _=>0) () trivial (cz C) a1 ?_;rintro _ _ I;refine cB ?_;exact bA I
theorem X3 (_u:Unit):aV d0 276 [.aB 0 [] .nil] (.cu []):=by
 have an:=bG;refine aV.bl ai Tryz.func276 C C fun s I=>?_
 have U:=X0 ();have ad:=X2 ();refine cB ?_;exact bA I
def rA (fi:ko) (up:List Int):Prop:=∀ n,oz fi n=if up.contains n then some (.bool true) else none
theorem rA.put {fi:ko} {up:List Int} (h:rA fi up) (x:Int):rA (sA fi x (.bool true)) (up++[x]):=fun n=>by
 rw [Ie,h n];by_cases e:n=x
 ·subst e;simp
 ·rw [d9 e]
  have:(up++[x]).contains n=up.contains n:=by
   rw [af4];simp [e]
  rw [this]
theorem rA.look {fi:ko} {up:List Int} (h:rA fi up) (n:Int):iX (qg fi) (.int .i64 n)=some (if up.contains n then some (.bool true) else none):=by rw [vg,h n]
theorem Bu (l:List Int):(l.map bb).all e7=true:=by rw [List.all_map];simp [Function.comp_def,bb,e7]
structure N4 (p:bR):Prop where
 jZ:p.cm.length≤10
 each:∀ c∈p.cm,c.parents.length≤3∧c.bn.length≤4
theorem X4 (p:bR) (aD:N4 p) (c:Nat) (aF:c<p.cm.length):aV d0 256 [c9 p,.int .i64 ((c:Int)+3)] (bg (pe p c)):=by
 have an:=bG;refine aV.bl ai Tryz.func256 C C fun s I=>?_
 have tL:=aD.jZ;unfold c9 c1
 repeat (first|(refine r2 ?_)|refine aa.jV I C C C C C C (fun b I=>?_)|(refine Dl ?_))
 refine aa.rZ I C C C C (fun mb I=>?_);refine ep ?_;refine aa.mX ai I C C (.inr C) C C C C C C aZ C (vh ((c:Int)+3) (.bool true) []) (fun I=>?_);refine dL ?_;refine ae.b9 [2] C I (σ:=Nat×List Int×List Int×rk×ko) (fun q=>[(7,.int .i64 ((q.1:Int)+2)),(5,.map mb),(6,k7 q.2.2.2.1 q.2.2.1)]) (fun q=>[(.own b,.box 27 (c1 p)),(.own mb,.map (qg q.2.2.2.2))]++j1 q.2.2.2.1 q.2.2.1)
  (fun q=>q.1≤c+1∧oo p.cm q.1 q.2.1 q.2.2.1=oo p.cm (c+1) [(c:Int)+3] []∧rA q.2.2.2.2 q.2.1∧sm q.2.2.2.1 q.2.2.1∧q.2.2.1.length+4*q.1≤4*(c+1)) (fun q=>q.1) (c+1,[(c:Int)+3],[],none,[((c:Int)+3,.bool true)])
  ⟨g9 _,rfl,fun n=>by unfold oz;by_cases e:n=(c:Int)+3<;>simp [e],rfl,by simp⟩ ⟨⟨_,rfl,aU.of_eq cP⟩,⟨_,rfl,aO⟩,⟨_,rfl,aO⟩,trivial⟩ (by simp only [j1,d7,c1];exact a1) ?_
 rintro ⟨k,up,out,bC,fi⟩ ⟨aA,aq,p8,df,gz⟩ I;simp only at aA aq p8 df gz I ⊢;unfold c1 at I ⊢;refine hx ?_;refine ae.cond C (fun aw=>?_) (fun aY=>?_);rotate_left
 ·have aY:k=0:=by simp at aY;omega
  subst aY;have aq:out=oo p.cm (c+1) [(c:Int)+3] []:=aq;have aC:pe p c=pd out:=by unfold pe;rw [← aq]
  rw [aC];rcases bC with _|⟨g,cap,dZ⟩
  ·have:out=[]:=df
   subst this;have U:=X3 ();have ad:=Hv [] .nil;have ad:=aV.args (show cR [.aB 0 [] .nil] [.aB 1 [] .nil] from .one (aU.nil hk)) ad;refine db ?_;rw [show pd []=[] by unfold pd;simp];exact Fin.cG I C aU.bc
  ·have ky:out.length+dZ.length=cap:=df
   have U:=HK g cap out dZ ag;have ad:=Hv ((pd out).map bb) .bc;simp only [j1,k7,ad',d8] at I ⊢;refine db ?_;refine aa.b7 rfl rfl rfl rfl rfl U I (.cons aZ .nil) ?_ (fun _ _ ⟨h,_⟩ _=>by cases h);rintro _ _ ⟨⟨⟩,rfl⟩ I;simp only [ad',d8] at I ⊢;have e:((pd out).map bb++dZ).take out.length=(pd out).map bb:=aq6 (by unfold pd;simp);have xn:(pd out).length=out.length:=by unfold pd;simp
   refine aa.run ai C (aa.nil ?_);refine b4 ?_;refine ae.tt I 6 g (cs:=(pd out).map bb++dZ) C .here (by rw [f8,f0];omega) ag ag (by rw [e];exact Bu _) (fun I=>?_);rw [e];refine db ?_;exact Fin.cG I C aU.bc
 have aw:1≤k:=by simp at aw;omega
 obtain ⟨i,rfl⟩:∃ i,k=i+1:=⟨k-1,by omega⟩;have lG:=p8.look ((i:Int)+3);have av:oo p.cm (i+1) up out=if up.contains ((i:Int)+3) then oo p.cm i (up++(p.cm.getD i default).parents) (out++(p.cm.getD i default).bn) else oo p.cm i up out:=rfl
 rw [av] at aq;have N5:(((i+1:Nat):Int)+2)=(i:Int)+3:=by omega
 rw [N5];have l5:i<p.cm.length:=by omega
 obtain ⟨ej,cj,Bv⟩:=b5 (f:=jc) l5;have kY:p.cm.getD i default=ej:=by rw [d5,cj];rfl
 rw [kY] at aq;obtain ⟨NY,hE⟩:=aD.each ej (d6 cj);have dn:ad5 .i64 ((i:Int)+3-3)=(i:Int):=by rw [ee ag ag];omega
 have ig:ad5 .i64 ((i:Int)+3-1)=(i:Int)+2:=by rw [ee ag ag];omega
 refine dL ?_;cases sr:up.contains ((i:Int)+3) with
 | false=>
  rw [sr] at aq lG;simp only [af6,ah9] at aq lG;refine aa.jr ai I C C C C C C C C C C (.there .here) C lG C ?_;refine db ?_;exact bp.mk (i,up,out,bC,fi) I ⟨by omega,aq,p8,df,by show out.length+4*i≤4*(c+1);omega⟩ DQ (aI.ei _) (by show i<i+1;omega)
 | true=>
  rw [sr] at aq lG;simp only [ag7] at aq lG;unfold jc m4 bg at Bv;refine aa.jr ai I C C C C C C C C C C (.there .here) C lG C ?_;refine cv I ?_;intro I;refine aa.idx ai i C C C C C C C C C C dn Bv C ?_;refine ep ?_;rcases bC with _|⟨g,cap,dZ⟩
  ·have bu:out=[]:=df
   by_cases Ij:ej.bn=[]
   ·refine aa.nD 28 (.aB 1 [] .bc) C (aU.of_eq (by rw [Ij];rfl)) ?_
    refine aa.Hh ai C C C C C C C er C C C ?_;have w6:sm none (out++ej.bn):=by rw [bu,Ij];rfl
    refine cv I ?_;intro I;refine aa.idx ai i C C C C C C C C C C dn Bv C ?_;refine dL ?_;refine ae.b9 [2,5,6,7,36,37] C I (σ:=Nat×ko) (fun q=>[(38,.int .i64 (q.1:Int))]) (fun q=>(.own mb,.map (qg q.2))::(.own b,.box 27 (c1 p))::j1 none (out++ej.bn)) (fun q=>q.1≤ej.parents.length∧rA q.2 (up++ej.parents.take q.1)) (fun q=>ej.parents.length-q.1) (0,fi) ⟨g8 _,by rw [al6,d7];exact p8⟩ (cz C) (.cons (.there .here) (.cons .here .nil)) ?_;rintro ⟨k,Bw⟩ ⟨hL,oB⟩ I;simp only [c1] at hL oB I ⊢;refine hx ?_;refine ae.cond C (fun cl=>?_) (fun dd=>?_)
    ·have cl:k<ej.parents.length:=by simpa using cl
     obtain ⟨x,ab,bP⟩:=b5 (f:=bb) cl;unfold bb at bP;refine dL ?_;refine aa.mX ai I C C (.inl C) C C C C C C .here C (vh _ _ _) (fun I=>?_);refine db ?_;exact bp.mk (k+1,_) I ⟨cl,by rw [hZ ab,← af9];exact oB.put x⟩ ck (aI.ei _) HJ
    ·have dd:k=ej.parents.length:=by simp at dd;omega
     subst dd;rw [ae6] at oB;refine db ?_;exact bp.mk (i,up++ej.parents,out++ej.bn,none,Bw) I ⟨by omega,aq,oB,w6,by show (out++ej.bn).length+4*i≤4*(c+1);rw [f8];omega⟩ DQ (.cons (.there .here) (.cons .here (aI.ei _))) (by show i<i+1;omega)
   ·have yk:1≤ej.bn.length:=by
     rcases bE:ej.bn with _|⟨z,aZ⟩
     ·exact absurd bE Ij
     ·simp
    refine aa.Hf ai I C C C C C C C er C C C C C C (Bu _) (by rw [f0];exact yk) (by show _*8≤_;rw [f0];omega) nM (fun aW ch cs' U ad aj I=>?_)
    obtain ⟨dZ,rfl⟩:∃ dZ,cs'=(out++ej.bn).map bb++dZ:=⟨cs'.drop (ej.bn.map bb).length,by
     have:=ai7 (ej.bn.map bb).length cs'
     rw [aj] at this
     rw [bu];exact this.symm⟩
    have w6:sm (some (aW,ch,dZ)) (out++ej.bn):=by show (out++ej.bn).length+dZ.length=ch;rw [f8,f0] at U;exact U
    refine aa.nD 29 (k7 (some (aW,ch,dZ)) (out++ej.bn)) C (aU.of_eq (by show eh aW _ ch=eh aW _ ch;rw [bu,f0];rfl)) ?_;refine cv I ?_;intro I;refine aa.idx ai i C C C C C C C C C C dn Bv C ?_;refine dL ?_;refine ae.b9 [2,5,6,7,36,37] C I (σ:=Nat×ko) (fun q=>[(38,.int .i64 (q.1:Int))]) (fun q=>(.own mb,.map (qg q.2))::(.own b,.box 27 (c1 p))::j1 (some (aW,ch,dZ)) (out++ej.bn)) (fun q=>q.1≤ej.parents.length∧rA q.2 (up++ej.parents.take q.1)) (fun q=>ej.parents.length-q.1) (0,fi) ⟨g8 _,by rw [al6,d7];exact p8⟩ (cz C) (.cons (.there (.there .here)) (.cons (.there .here) (.cons .here .nil))) ?_;rintro ⟨k,Bw⟩ ⟨hL,oB⟩ I;simp only [c1] at hL oB I ⊢;refine hx ?_;refine ae.cond C (fun cl=>?_) (fun dd=>?_)
    ·have cl:k<ej.parents.length:=by simpa using cl
     obtain ⟨x,ab,bP⟩:=b5 (f:=bb) cl;unfold bb at bP;refine dL ?_;refine aa.mX ai I C C (.inl C) C C C C C C .here C (vh _ _ _) (fun I=>?_);refine db ?_;exact bp.mk (k+1,_) I ⟨cl,by rw [hZ ab,← af9];exact oB.put x⟩ ck (aI.ei _) HJ
    ·have dd:k=ej.parents.length:=by simp at dd;omega
     subst dd;rw [ae6] at oB;refine db ?_;exact bp.mk (i,up++ej.parents,out++ej.bn,(some (aW,ch,dZ)),Bw) I ⟨by omega,aq,oB,w6,by show (out++ej.bn).length+4*i≤4*(c+1);rw [f8];omega⟩ DQ (.cons (.there .here) (.cons .here (aI.ei _))) (by show i<i+1;omega)
  ·have ky:out.length+dZ.length=cap:=df
   refine aa.Hg (n:=out.length) (cap:=cap) (cs:=out.map bb++dZ) ai I C C C C C C C er C C C C (.there (.there .here)) (by rw [f8,f0];exact ky) ag (by rw [aq6 ba];exact Bu _) C C (Bu _) (by show _*8≤_;rw [f0];omega) nM (fun aW ch cs' U ad aj I=>?_);rw [aq6 ba] at aj
   obtain ⟨nc,rfl⟩:∃ dZ,cs'=(out++ej.bn).map bb++dZ:=⟨cs'.drop (out.length+(ej.bn.map bb).length),by
    have:=ai7 (out.length+(ej.bn.map bb).length) cs'
    rw [aj] at this
    rw [ae1];exact this.symm⟩
   have w6:sm (some (aW,ch,nc)) (out++ej.bn):=by show (out++ej.bn).length+nc.length=ch;rw [f8,f0] at U;exact U
   refine aa.nD 29 (k7 (some (aW,ch,nc)) (out++ej.bn)) C (aU.of_eq (by show eh aW _ ch=eh aW _ ch;rw [f0,f8])) ?_;refine cv I ?_;intro I;refine aa.idx ai i C C C C C C C C C C dn Bv C ?_;refine dL ?_;refine ae.b9 [2,5,6,7,36,37] C I (σ:=Nat×ko) (fun q=>[(38,.int .i64 (q.1:Int))]) (fun q=>(.own mb,.map (qg q.2))::(.own b,.box 27 (c1 p))::j1 (some (aW,ch,nc)) (out++ej.bn)) (fun q=>q.1≤ej.parents.length∧rA q.2 (up++ej.parents.take q.1)) (fun q=>ej.parents.length-q.1) (0,fi) ⟨g8 _,by rw [al6,d7];exact p8⟩ (cz C) (.cons (.there (.there .here)) (.cons (.there .here) (.cons .here .nil))) ?_;rintro ⟨k,Bw⟩ ⟨hL,oB⟩ I;simp only [c1] at hL oB I ⊢;refine hx ?_;refine ae.cond C (fun cl=>?_) (fun dd=>?_)
   ·have cl:k<ej.parents.length:=by simpa using cl
    obtain ⟨x,ab,bP⟩:=b5 (f:=bb) cl;unfold bb at bP;refine dL ?_;refine aa.mX ai I C C (.inl C) C C C C C C .here C (vh _ _ _) (fun I=>?_);refine db ?_;exact bp.mk (k+1,_) I ⟨cl,by rw [hZ ab,← af9];exact oB.put x⟩ ck (aI.ei _) HJ
   ·have dd:k=ej.parents.length:=by simp at dd;omega
    subst dd;rw [ae6] at oB;refine db ?_;exact bp.mk (i,up++ej.parents,out++ej.bn,(some (aW,ch,nc)),Bw) I ⟨by omega,aq,oB,w6,by show (out++ej.bn).length+4*i≤4*(c+1);rw [f8];omega⟩ DQ (.cons (.there .here) (.cons .here (aI.ei _))) (by show i<i+1;omega)
def Ec (b:Bool):ey:=if b then .ret (.cu []) else .panic tQ
theorem gO {x:af} {b:Bool} (h:ey.ret x=Ec b):b=true∧x = .cu []:=by
 cases b with
 | true=>cases h;exact ⟨rfl,rfl⟩
 | false=>cases h
theorem gP {x:af} {b:Bool} (h:ey.panic x=Ec b):b=false∧x=tQ:=by
 cases b with
 | true=>cases h
 | false=>cases h;exact ⟨rfl,rfl⟩
theorem gY (b:Bool):bF d0 223 [.bool b] [] (fun o K=>K=[]∧o=Ec b):=by
 cases b with
 | true=>exact fun s I=>hh.mono (XV () s) (fun o ak ⟨U,ad⟩=>⟨[],ad,trivial,rfl,U⟩)
 | false=>exact bF.mono (XW ()) (fun o K ⟨U,ad⟩=>⟨ad,U⟩)
theorem Ik {cs:List fM} (h:∀ c∈cs,c.bn.length≤4):∀ (k:Nat) (up out:List Int),(oo cs k up out).length≤out.length+4*k
  | 0,_,_=>g9 _
  | k+1,up,out=>by
    rw [oo];split
    · have U:=Ik h k (up++(cs.getD k default).parents) (out++(cs.getD k default).bn)
      have ad:(cs.getD k default).bn.length≤4:=by
        rw [d5];cases aF:cs[k]? with
        | none=>exact g8 _
        | some c=>exact h c (d6 aF)
      rw [f8] at U;omega
    · have:=Ik h k up out
      omega
theorem X5 (p:bR) (aD:gC p):bF d0 222 [c9 p] [] (fun o K=>K=[]∧o=Ec (pf p)):=by
 have an:=bG;have av:=NZ p aD;have jX:(hb p).length=p.cm.length:=by unfold hb;simp
 have Ed:=XT (hb p) (by rw [jX];exact aD.cls);have cI:pf p=(decide (p.cm.length≤10)&&((lC 0 p.cm==some p.bn)&&(mA (hb p)&&q' p 0 p.cm))):=rfl;refine bF.bl ai Tryz.func222 C C fun s I=>?_
 unfold c9 c1 at *;unfold cZ at *;refine dF ?_;refine aa.b7 C C C C C (gY _) I .nil ?_ ?_;rotate_left
 ·rintro _ _ ⟨rfl,h⟩ I
  obtain ⟨az,rfl⟩:=gP h;rw [d8] at I ⊢;exact Fin.fb I aO .nil ⟨rfl,(by rw [cI,show decide (p.cm.length≤10)=false by simp at az ⊢;omega];rfl)⟩
 rintro _ _ ⟨rfl,h⟩ I;obtain ⟨U,rfl⟩:=gO h;rw [d8] at I ⊢;have U:p.cm.length≤10:=by simp at U;omega
 rw [show decide (p.cm.length≤10)=true by simpa using U,f5] at cI;refine bD ?_;refine ae.b9 [1,22,23] C I (σ:=Nat×Nat) (fun q=>[(24,.int .i64 (q.1:Int)),(2,.int .i64 (q.2:Int))]) (fun _=>[]) (fun q=>q.1≤p.cm.length∧lC 0 p.cm=lC (q.2:Int) (p.cm.drop q.1)∧q.2≤4*q.1) (fun q=>p.cm.length-q.1) (0,0) ⟨g8 _,rfl,g9 _⟩ (cz C) a1 ?_;rintro ⟨j,n⟩ ⟨aH,aq,Il⟩ I;simp only at aH aq Il I ⊢;refine b8 ?_;refine ae.cond C (fun aw=>?_) (fun aY=>?_)
 ·have aw:j<p.cm.length:=by simpa using aw
  obtain ⟨c,ax,c7⟩:=b5 (f:=jc) aw;rw [drop_cons ax,lC] at aq;unfold jc m4 bg at c7;refine dY ?_;refine aa.b7 C C C C C (gY _) I .nil ?_ ?_;rotate_left
  ·rintro _ _ ⟨rfl,h⟩ I
   obtain ⟨az,rfl⟩:=gP h;rw [d8] at I ⊢;exact Fin.fb I aO .nil ⟨rfl,(by rw [d9 (by simp at az;omega)] at aq;rw [cI,aq];rfl)⟩
  rintro _ _ ⟨rfl,h⟩ I;obtain ⟨ad,rfl⟩:=gO h;rw [d8] at I ⊢;have ad:c.bn.length≤4:=by simp at ad;omega
  rw [g6 ad] at aq;refine bD ?_;refine ae.b9 [1,22,23,24,34,35] C I (σ:=Nat×Nat) (fun q=>[(36,.int .i64 (q.1:Int)),(2,.int .i64 (q.2:Int))]) (fun _=>[]) (fun q=>q.1≤c.bn.length∧nG (n:Int) c.bn=nG (q.2:Int) (c.bn.drop q.1)∧q.2≤n+q.1) (fun q=>c.bn.length-q.1) (0,n) ⟨g8 _,rfl,g9 _⟩ (cz C) a1 ?_;rintro ⟨k,m⟩ ⟨aA,bf,N6⟩ I;simp only at aA bf N6 I ⊢;refine b8 ?_;refine ae.cond C (fun cl=>?_) (fun dd=>?_)
  ·have cl:k<c.bn.length:=by simpa using cl
   obtain ⟨x,ab,bP⟩:=b5 (f:=bb) cl;rw [drop_cons ab,nG] at bf;unfold bb at bP;refine dL ?_;refine aa.b7 C C C C C (gY _) I .nil ?_ ?_;rotate_left
   ·rintro _ _ ⟨rfl,h⟩ I
    obtain ⟨az,rfl⟩:=gP h;rw [d8] at I ⊢;exact Fin.fb I aO .nil ⟨rfl,(by rw [d9 sk] at bf;rw [bf] at aq;rw [cI,aq];rfl)⟩
   rintro _ _ ⟨rfl,h⟩ I;obtain ⟨aj,rfl⟩:=gO h;rw [d8] at I ⊢;have aj:x=(m:Int):=by simpa using aj
   rw [g6 aj] at bf;refine gf ?_;exact bp.mk (k+1,m+1) I ⟨cl,by rw [bf];push_cast;rfl,by show m+1≤n+(k+1);omega⟩ (by repeat (first|exact trivial|refine ⟨⟨_,rfl,aO⟩,?_⟩|refine ⟨⟨_,rfl,aU.of_eq (by (first|rw [iN ag]|(rw [ee ag ag];push_cast;rfl)))⟩,?_⟩)) a1 DS
  ·have dd:k=c.bn.length:=by simp at dd;omega
   subst dd;rw [eG (g9 _),nG] at bf;rw [bf] at aq;refine bD ?_;exact bp.mk (j+1,m) I ⟨aw,aq,by show m≤4*(j+1);omega⟩ ck a1 yQ
 have aY:j=p.cm.length:=by simp at aY;omega
 subst aY;rw [eG (g9 _),lC] at aq;rw [aq] at cI;refine db ?_;cases Im:((n:Int)==p.bn) with
 | false=>
  have Io:(some (n:Int)==some p.bn)=false:=by rw [← Im];rfl
  rw [Io,f6] at cI;refine eg ?_;refine aa.b7 C C C C C (gY _) I .nil ?_ ?_;rotate_left
  ·rintro _ _ ⟨rfl,h⟩ I
   obtain ⟨az,rfl⟩:=gP h;rw [d8] at I ⊢;exact Fin.fb I aO .nil ⟨rfl,(by rw [cI];rfl)⟩
  rintro _ _ ⟨rfl,h⟩ I;obtain ⟨aj,rfl⟩:=gO h;rw [d8] at I ⊢;cases aj
 | true=>
 have Io:(some (n:Int)==some p.bn)=true:=by rw [← Im];rfl
 rw [Io,f5] at cI;have df:=Ho aq;cases y8:mA (hb p) with
 | false=>
  rw [y8,f6] at cI;rw [y8] at Ed;simp only [af6,ah9] at Ed;refine db ?_;refine aa.b7 C C C C C (gY _) I .nil ?_ ?_;rotate_left
  ·rintro _ _ ⟨rfl,h⟩ I
   obtain ⟨az,rfl⟩:=gP h;rw [d8] at I ⊢;exact Fin.fb I aO .nil ⟨rfl,(by rw [cI];rfl)⟩
  rintro _ _ ⟨rfl,h⟩ I;obtain ⟨aj,rfl⟩:=gO h;rw [d8] at I ⊢;exact absurd aj ec
 | true=>
 rw [y8,f5] at cI;rw [y8] at Ed;simp only [ag7] at Ed;have mq:=AJ y8
 have u2:N4 p:=⟨U,fun c aF=>⟨by
  obtain ⟨i,aN⟩:=ag2 aF
  exact (mq.par i c.parents (by unfold hb;rw [af3,aN];rfl)).1,df c aF⟩⟩
 have y9:=fun c aF=>XU (hb p) y8 c aF
 unfold cZ at y9;refine db ?_;refine aa.b7 C C C C C (gY _) I .nil ?_ ?_;rotate_left
 ·rintro _ _ ⟨rfl,h⟩ I
  obtain ⟨az,rfl⟩:=gP h;rw [d8] at I ⊢;exact Fin.fb I aO .nil ⟨rfl,(by exact absurd az ec)⟩
 rintro _ _ ⟨rfl,h⟩ I;obtain ⟨aj,rfl⟩:=gO h;rw [d8] at I ⊢;clear aj;refine bD ?_;refine ae.b9 [1,7,61,62] C I (σ:=Nat) (fun j=>[(63,.int .i64 (j:Int))]) (fun _=>[]) (fun j=>j≤p.cm.length∧pf p=q' p j (p.cm.drop j)) (fun j=>p.cm.length-j) 0 ⟨g8 _,cI⟩ (cz C) a1 ?_;rintro j ⟨aH,aq⟩ I;refine b8 ?_;refine ae.cond C (fun aw=>?_) (fun aY=>?_);rotate_left
 ·have aY:j=p.cm.length:=by simp at aY;omega
  subst aY;rw [eG (g9 _),q'] at aq;refine ef ?_;exact Fin.bt I C aO .nil ⟨rfl,by rw [aq];rfl⟩
 have aw:j<p.cm.length:=by simpa using aw
 obtain ⟨c,ax,c7⟩:=b5 (f:=jc) aw;rw [drop_cons ax,q'] at aq;unfold Hn at aq;have xo:=y9 (j+3) ag;have mB:(fC (hb p) (2+(hb p).length)).getD (j+3) []=yH p (j+3):=rfl;rw [mB] at xo;have iz:ad5 .i64 ((j:Int)+3)=((j+3:Nat):Int):=by rw [ee ag ag];omega
 rw [← iz] at xo;have nK:=X4 p u2 j aw;have nK:aV d0 256 [c9 p,.int .i64 (ad5 .i64 ((j:Int)+3))] (bg (pe p j)):=by rw [iz];exact nK
 unfold c9 c1 bg at nK;unfold jc m4 bg at c7;unfold NW at xo;cases Ee:(yH p (j+3)).isEmpty with
 | true=>
  rw [Ee,g6 C] at xo;rw [Ee] at aq
  repeat (first|(refine uN I ?_;clear I;intro I)|refine aa.dK ai I rfl rfl rfl rfl rfl rfl rfl (fun cA I=>?_)|(refine o4 ?_))
  refine aa.b7 C C C C C (gY _) I .nil ?_ ?_;rotate_left
  ·rintro _ _ ⟨rfl,h⟩ I
   obtain ⟨az,rfl⟩:=gP h;rw [d8] at I ⊢;exact Fin.fb I aO .nil ⟨rfl,(by rw [aq];rfl)⟩
  rintro _ _ ⟨rfl,h⟩ I;obtain ⟨aj,rfl⟩:=gO h;rw [d8] at I ⊢;exact absurd aj ec
 | false=>
 rw [Ee,d9 ba] at xo;rw [Ee,aj3,f5] at aq;unfold bg at xo
 repeat (first|(refine uN I ?_;clear I;intro I)|refine aa.dK ai I rfl rfl rfl rfl rfl rfl rfl (fun cA I=>?_)|(refine o4 ?_))
 refine aa.b7 C C C C C (gY _) I .nil ?_ ?_;rotate_left
 ·rintro _ _ ⟨rfl,h⟩ I
  obtain ⟨az,rfl⟩:=gP h;rw [d8] at I ⊢;exact Fin.fb I aO .nil ⟨rfl,(by exact absurd az ec)⟩
 rintro _ _ ⟨rfl,h⟩ I;obtain ⟨aj,rfl⟩:=gO h;rw [d8] at I ⊢;clear aj;refine db ?_;refine aa.rZ I C C C C (fun mb I=>?_);refine cv I ?_;intro I;have hR:(pe p j).length≤40:=by
  have:=Ik df (j+1) [(j:Int)+3] [];unfold pe pd;rw [at2];simp only [af7] at this;omega
 have h8:=fun n=>yw (pe p j) n ag
 unfold bg at h8;generalize pe p j=wU at nK aq hR h8 I ⊢;have N5:=(aD.each c (d6 ax)).2.2;refine ae.b9 [1,7,12,13,61,62,63,84,85] C I (σ:=Nat×ko) (fun q=>[(86,.int .i64 (q.1:Int))]) (fun q=>[(.own mb,.map (qg q.2))]) (fun q=>q.1≤c.inits.length∧rA q.2 ((c.inits.take q.1).map iR.slot)∧q9 wU [] c.inits=q9 wU ((c.inits.take q.1).map iR.slot) (c.inits.drop q.1)) (fun q=>c.inits.length-q.1) (0,[]) ⟨g8 _,fun n=>rfl,rfl⟩ (cz C) a1 ?_;rintro ⟨k,fi⟩ ⟨aA,p8,bf⟩ I;simp only at aA p8 bf I ⊢;refine b8 ?_;refine ae.cond C (fun cl=>?_) (fun dd=>?_);rotate_left
 ·have dd:k=c.inits.length:=by simp at dd;omega
  subst dd;rw [eG (g9 _),q9] at bf;rw [bf,f5] at aq;refine bD ?_;exact bp.mk (j+1) I ⟨aw,aq⟩ ck a1 yQ
 have cl:k<c.inits.length:=by simpa using cl
 obtain ⟨x,ab,bP⟩:=b5 (f:=wP) cl;rw [drop_cons ab,q9] at bf;unfold wP at bP;have N7:=h8 x.slot;have lG:=p8.look x.slot;have u3:=NX x.n;cases so:wU.contains x.slot with
 | false=>
  rw [so] at N7;rw [so,f6] at bf;rw [bf,f6] at aq;refine dY ?_;refine aa.b7 C C C C C (gY _) I .nil ?_ ?_;rotate_left
  ·rintro _ _ ⟨rfl,h⟩ I
   obtain ⟨az,rfl⟩:=gP h;rw [d8] at I ⊢;exact Fin.fb I aO .nil ⟨rfl,(by rw [aq];rfl)⟩
  rintro _ _ ⟨rfl,h⟩ I;obtain ⟨aj,rfl⟩:=gO h;rw [d8] at I ⊢;exact absurd aj ec
 | true=>
 rw [so] at N7;rw [so,f5] at bf;cases vi:((c.inits.take k).map iR.slot).contains x.slot with
 | true=>
  rw [vi] at lG;rw [vi,aj',f6] at bf;rw [bf,f6] at aq;refine dY ?_;refine aa.jr ai I C C C C C C C C C C aZ C lG C ?_;refine eg ?_;refine aa.b7 C C C C C (gY _) I .nil ?_ ?_;rotate_left
  ·rintro _ _ ⟨rfl,h⟩ I
   obtain ⟨az,rfl⟩:=gP h;rw [d8] at I ⊢;exact Fin.fb I aO .nil ⟨rfl,(by rw [aq];rfl)⟩
  rintro _ _ ⟨rfl,h⟩ I;obtain ⟨aj,rfl⟩:=gO h;rw [d8] at I ⊢;exact absurd aj ec
 | false=>
 rw [vi] at lG;rw [vi,aj3,f5] at bf;simp only [af6,ah9] at lG;refine dY ?_;refine aa.jr ai I C C C C C C C C C C aZ C lG C ?_;refine db ?_;refine aa.b7 C C C C C (gY _) I .nil ?_ ?_;rotate_left
 ·rintro _ _ ⟨rfl,h⟩ I
  obtain ⟨az,rfl⟩:=gP h;rw [d8] at I ⊢;exact Fin.fb I aO .nil ⟨rfl,(by rw [az,f6] at bf;rw [bf,f6] at aq;rw [aq];rfl)⟩
 rintro _ _ ⟨rfl,h⟩ I;obtain ⟨aj,rfl⟩:=gO h;rw [d8] at I ⊢;rw [aj,f5] at bf;refine hx ?_;refine aa.mX ai I C C (.inl C) C C C C C C aZ C (vh _ _ _) (fun I=>?_);refine gf ?_;have hl:(c.inits.take (k+1)).map iR.slot=(c.inits.take k).map iR.slot++[x.slot]:=by rw [hZ ab,ae1];rfl
 exact bp.mk (k+1,_) I ⟨cl,by show rA _ ((c.inits.take (k+1)).map iR.slot);rw [hl];exact p8.put x.slot,by show _=q9 wU ((c.inits.take (k+1)).map iR.slot) _;rw [hl];exact bf⟩ ck a1 (by show c.inits.length-(k+1)<c.inits.length-k;omega)
def xp (n:Int):af := .iface 277 (.int .i64 n)
def xq (op:Int):af:=
 if op=5 then .iface 279 (.agg [])
 else if op=1∨op=2∨op=3∨op=6∨op=18 then xp 0
 else if op=4∨op=8∨op=17 then xp 1
 else if op=7∨op=9∨op=11∨op=12∨op=13∨op=14∨op=15∨op=16 then xp 2
 else if op=10 then xp 3
 else .nY
theorem X6 (op:Int):aV d0 228 [.int .i64 op] (xq op):=by
 have an:=bG;refine aV.bl ai Tryz.func228 C C fun s I=>?_
 by_cases aC:1≤op∧op≤18
 ·have h:op=1∨op=2∨op=3∨op=4∨op=5∨op=6∨op=7∨op=8∨op=9∨op=10∨op=11∨op=12∨op=13∨op=14∨op=15∨op=16∨op=17∨op=18:=by omega
  clear aC;rcases h with rfl|rfl|rfl|rfl|rfl|rfl|rfl|rfl|rfl|rfl|rfl|rfl|rfl|rfl|rfl|rfl|rfl|rfl
  all_goals
   refine bD ?_;exact bA I
 ·have aA:xq op = .nY:=by
   unfold xq;rw [d9 ag,d9 ag,d9 ag,d9 ag,d9 ag]
  rw [aA]
  repeat (first|(refine Dm ?_)|refine ae.cond C (fun h=>absurd h cP) (fun _=>?_))
  exact bA I
theorem N8 (n:Int) (p:bR) (x:iS):aV d0 335 [.int .i64 n,c9 p,jd x] (.int .i64 n):=by
 have an:=bG;refine aV.bl ai Tryz.func335 C C fun s I=>?_
 unfold c9 c1 jd k3;refine gT ?_;exact bA I
theorem N9 (p:bR) (x:iS) (k:Nat) (g:Int) (ab:x.n=(k:Int)) (aA:p.dV[k]? = some g):aV d0 336 [.agg [],c9 p,jd x] (.int .i64 g):=by
 have an:=bG;refine aV.bl ai Tryz.func336 C C fun s I=>?_
 have eF:(p.dV.map bb)[k]? = some (.int .i64 g):=by rw [af3,aA];rfl
 unfold c9 c1 jd k3 bg;rw [ab];refine bD ?_;exact bA I
theorem X7 (p:bR) (aD:gC p) (x:iS) (size:Int):aV d0 227 [c9 p,jd x,.int .i64 size] (.bool (m6 p x size)):=by
 have an:=bG;refine aV.bl ai Tryz.func227 C C fun s I=>?_
 have cj:=aD.cls;have jX:=aD.dV;have U:=NX x.n;have dn:ad5 .i64 (3+((p.cm.map jc).length:Int))=3+(p.cm.length:Int):=by rw [f0,ee ag ag]
 unfold c9 c1 jd k3 bg;by_cases aC:x.op=1∨x.op=3∨x.op=4∨x.op=7∨x.op=6∨x.op=8∨x.op=5
 ·rcases aC with h|h|h|h|h|h|h
  all_goals
   have hm:m6 p x size=m6 p x size:=rfl
   conv at hm=>rhs;unfold m6
   rw [h] at hm ⊢;simp only [Int.reduceEq,ag7,ah9,true_or,or_true,or_self,reduceIte] at hm;rw [hm]
   repeat' (first|(with_reducible first|apply ae.seq|apply b4|apply fQ|apply fA|apply hj|apply ae.ret|apply ae.skip|apply ae.block)|refine c5 C ?_|refine ae.cJ ?_|refine aa.nil ?_|refine ae.fH C ?_|refine ae.gF C ?_|refine cD C ?_|refine aa.skip C C C ?_|refine aa.eb C C C C C cw ?_|(fail_if_success refine aa.same true C ?_);(fail_if_success refine aa.same false C ?_);refine aa.hG C C (fun h=>?_) (fun h=>?_))
  all_goals (refine Fin.cG I C (aU.of_eq (ae7 af.bool ?_));clear I U;(try simp only [f0] at *)<;>grind)
 ·have hm:m6 p x size=(decide (x.n≥0)&&decide (x.n<1)):=by
   unfold m6;rw [d9 ag,d9 ag,d9 ag,d9 ag,d9 ag]
  rw [hm]
  repeat (first|(refine Dm ?_)|refine ae.cond C (fun h=>absurd h (by first|(simp;done)|(simp;omega))) (fun _=>?_))
  repeat' (first|(with_reducible first|apply b4|apply ae.ret)|refine aa.nil ?_|refine cD C ?_|refine aa.skip C C C ?_|(fail_if_success refine aa.same true C ?_);(fail_if_success refine aa.same false C ?_);refine aa.hG C C (fun h=>?_) (fun h=>?_))
  all_goals (refine Fin.cG I C (aU.of_eq (ae7 af.bool ?_));clear I U;grind)
theorem X8 (w:bx):∀ (n:Nat) (f:ao),f.size≤n→n<bB→gM w f=true→aV d0 230 [f.bW] (.int .i64 (lB f)):=by
 have an:=bG;intro n
 induction n with
 | zero=>intro x h;have:=x.size_eq;omega
 | succ n aX=>
  intro f az i' av;refine aV.bl ai Tryz.func230 C C fun s I=>?_
  have iD:=f.size_eq;have hlen:=ao.q5 f.kids;rw [p4,f9] at av;rw [ao.cp];rw [DG];have aR:f.c0=true→ad5 .i64 (f.arg+1)=f.arg+1:=fun aE=>by
   have az:=av.1;simp only [h9,aE,ag7,f9,i7] at az;exact ee ag ag
  unfold ao.cells;cases aE:f.c0 with
  | true=>
   have X9:f.op=2∨f.op=3∨f.op=4:=by unfold ao.c0 at aE;simp at aE;omega
   rcases X9 with h|h|h
   ·rw [h]
    refine bD ?_;refine ae.b9 [24,23] C I (σ:=Nat) (fun j=>[(25,.int .i64 (j:Int)),(3,.int .i64 (hH (if f.c0 then f.arg+1 else 0) (f.kids.take j)))]) (fun _=>[]) (fun j=>j≤f.kids.length) (fun j=>f.kids.length-j) 0 (g8 _) yP a1 ?_;rintro j aH I;refine b8 ?_;refine ae.cond C (fun aw=>?_) (fun aY=>?_);rotate_left
    ·have aY:j=f.kids.length:=by simp at aY;omega
     subst aY;rw [ae6];refine ef ?_;exact Fin.cG I C (aU.of_eq (by rw [aE]))
    have aw:j<f.kids.length:=by simpa using aw
    obtain ⟨k,aA,eF⟩:=b5 (f:=ao.bW) aw;have hm:=ao.iQ (d6 aA);have aF:=aX k ag ag (l2 av.2 (d6 aA));rw [ao.cp] at eF aF;refine dY ?_;refine bp.mk (j+1) I aw yO a1 ph
   ·rw [h]
    refine bD ?_;refine ae.b9 [24,23] C I (σ:=Nat) (fun j=>[(25,.int .i64 (j:Int)),(3,.int .i64 (hH (if f.c0 then f.arg+1 else 0) (f.kids.take j)))]) (fun _=>[]) (fun j=>j≤f.kids.length) (fun j=>f.kids.length-j) 0 (g8 _) yP a1 ?_;rintro j aH I;refine b8 ?_;refine ae.cond C (fun aw=>?_) (fun aY=>?_);rotate_left
    ·have aY:j=f.kids.length:=by simp at aY;omega
     subst aY;rw [ae6];refine ef ?_;exact Fin.cG I C (aU.of_eq (by rw [aE]))
    have aw:j<f.kids.length:=by simpa using aw
    obtain ⟨k,aA,eF⟩:=b5 (f:=ao.bW) aw;have hm:=ao.iQ (d6 aA);have aF:=aX k ag ag (l2 av.2 (d6 aA));rw [ao.cp] at eF aF;refine dY ?_;refine bp.mk (j+1) I aw yO a1 ph
   ·rw [h]
    refine bD ?_;refine ae.b9 [24,23] C I (σ:=Nat) (fun j=>[(25,.int .i64 (j:Int)),(3,.int .i64 (hH (if f.c0 then f.arg+1 else 0) (f.kids.take j)))]) (fun _=>[]) (fun j=>j≤f.kids.length) (fun j=>f.kids.length-j) 0 (g8 _) yP a1 ?_;rintro j aH I;refine b8 ?_;refine ae.cond C (fun aw=>?_) (fun aY=>?_);rotate_left
    ·have aY:j=f.kids.length:=by simp at aY;omega
     subst aY;rw [ae6];refine ef ?_;exact Fin.cG I C (aU.of_eq (by rw [aE]))
    have aw:j<f.kids.length:=by simpa using aw
    obtain ⟨k,aA,eF⟩:=b5 (f:=ao.bW) aw;have hm:=ao.iQ (d6 aA);have aF:=aX k ag ag (l2 av.2 (d6 aA));rw [ao.cp] at eF aF;refine dY ?_;refine bp.mk (j+1) I aw yO a1 ph
  | false=>
   have ad:(f.op==2)=false:=by unfold ao.c0 at aE;simp at aE ⊢;omega
   have aj:(f.op==3)=false:=by unfold ao.c0 at aE;simp at aE ⊢;omega
   have a':(f.op==4)=false:=by unfold ao.c0 at aE;simp at aE ⊢;omega
   refine dF ?_;refine aa.da 9 C ad ?_;refine ep ?_;refine aa.da 14 C aj ?_;refine fK ?_;refine ae.cond C (fun h=>by rw [a'] at h;cases h) (fun _=>?_);refine jG ?_;refine ae.b9 [24,23] C I (σ:=Nat) (fun j=>[(25,.int .i64 (j:Int)),(3,.int .i64 (hH (if f.c0 then f.arg+1 else 0) (f.kids.take j)))]) (fun _=>[]) (fun j=>j≤f.kids.length) (fun j=>f.kids.length-j) 0 (g8 _) yP a1 ?_;rintro j aH I;refine b8 ?_;refine ae.cond C (fun aw=>?_) (fun aY=>?_);rotate_left
   ·have aY:j=f.kids.length:=by simp at aY;omega
    subst aY;rw [ae6];refine ef ?_;exact Fin.cG I C (aU.of_eq (by rw [aE]))
   have aw:j<f.kids.length:=by simpa using aw
   obtain ⟨k,aA,eF⟩:=b5 (f:=ao.bW) aw;have hm:=ao.iQ (d6 aA);have aF:=aX k ag ag (l2 av.2 (d6 aA));rw [ao.cp] at eF aF;refine dY ?_;refine bp.mk (j+1) I aw yO a1 ph
theorem X' (w:World):(Instr.typeAssert .nilIface 20 291 true).run d0 w = .ok (.tuple #[.agg #[],.bool false]) w:=by kernel_rfl
theorem Ya (w:World):(Instr.typeAssert (.iface 291 (.agg #[])) 20 291 true).run d0 w = .ok (.tuple #[.agg #[],.bool true]) w:=by kernel_rfl
theorem Yb (b:Nat) (w:World) :
  CallsD d0 247 #[.pointer (some ⟨b,0,none⟩)] .returning w fun e jS w'=>e = .returned (.tuple #[])∧jS = .returning∧w'=w.alloc (.cells #[] 291):=by
 refine callsD_of_wpS Tryz.func247 C fun xr cs hu=>?_
 apply wpS_seq;apply wpS_region;simp [wpOpsS,go_sem,recoverD,hu,Tryz.ntmps247, Exit.thenS,X'];refine wpS_of_wp ?_;go_wp2;cases xr;simp_all [bodyPostS,results,Tryz.results247, Exit.thenS]
theorem Yc (b:Nat) (w:World) (rest:List PanicEntry) (x:Value) (an:w.heap[b]? = some (.cells #[x] 4 (0,0))) :
  CallsD d0 247 #[.pointer (some ⟨b,0,none⟩)] (.panicking ({ v := .iface 291 (.agg #[]),recovered:=false }::rest)) w
   fun o jS w'=>o = .returned (.tuple #[])∧jS = .panicking ({ v := .iface 291 (.agg #[]),recovered:=true }::rest)∧w'=(w.alloc (.cells #[] 291)).setRow b #[.bool false]:=by
 refine callsD_of_wpS Tryz.func247 C fun xr cs hu=>?_
 apply wpS_seq;apply wpS_region;simp [wpOpsS,go_sem,recoverD,hu,Tryz.ntmps247, Exit.thenS,Ya];have dR:=(ml w (.cells #[] 291) b (t8.1 an).1).trans an;have cV:(w.alloc (.cells #[] 291)).cell? ⟨b,0,none⟩=some x:=by rw [jE dR];rfl
 have pR:(w.alloc (.cells #[] 291)).frozen? ⟨b,0,none⟩=false:=by simp [World.frozen?,dR]
 have sh:=L' (x := .bool false) dR;generalize w.alloc (.cells #[] 291)=dn at cV pR sh ⊢;refine wpS_of_wp ?_;go_wp2;cases xr;simp_all [bodyPostS,results,Tryz.results247, Exit.thenS]
theorem Ef {w:World} {p:bU} {v:Value} {b o:Nat} (h:Rel w p v (.ptr b o)):v = .pointer (some ⟨b,o,none⟩):=by cases h;rfl
theorem Yd {w:World} {p:bU} {x:Value} (h:Rel w p x H0):x = .iface 291 (.agg #[]):=by
 cases h with
 | iface _ y _ h=>
 cases h with
 | agg cs xs h=>
 generalize hE:cs.toList=l at h;cases h;have:cs = #[]:=by rw [← ao0 (xs:=cs),hE]
 rw [this]
def Ye (p0:al) (n:Nat) (r:Bool):b6→Env→al→Prop
 | .ret,env,ak=>env.get? 4=some (.ptr n 0)∧r=true∧∃ M,ak=aS p0 M∧Ok p0 M∧∃ R,bo M (.own n) (.box 4 [.bool true]) R
 | .panic x,env,ak=>env.get? 4=some (.ptr n 0)∧r=false∧x=H0∧∃ M,ak=aS p0 M∧Ok p0 M∧∃ y R,bo M (.own n) (.box 4 [y]) R
 | _,_,_=>False
theorem Yf (l0:bx) (hw:gg l0) (l:List cb) (aE:3*l.length+3<bB) (ab:∀ x∈l,tJ l0 x):aV d0 211 [gh l0,p' l] (.bool (nN l0 (et l))):=by
 intro s;refine ⟨call211, fun w p vs cg eT=>?_⟩;cases eT with
 | cons v0 _ vs _ bu aL=>
 cases aL with
 | cons v1 _ vs _ U aL=>
 cases aL;unfold sR;refine LF (T:=[{ target := .fn (.func 247) #[.pointer (some ⟨w.heap.size,0,none⟩)],args := #[] }]) Tryz.func211 C ?_;go_wp2;intro b uL eZ;obtain ⟨az,hle,aA,Eg⟩:=rQ cg (.cells #[Value.bool false] 4) (.box 4 [.bool false]) (fun w' U ad aj=>⟨#[.bool false],U,aj _ _ (.cons _ _ _ _ (.bool _) .nil),fun o aD=>absurd (cg.lt _ _ aD) ag⟩);refine mh (ae.use (N:=10) (env:=[(0,gh l0),(1,p' l),(4,.ptr w.heap.size 0)]) (s:=aS s [(.own w.heap.size,.box 4 [.bool false])]) (Q:=Ye s w.heap.size (nN l0 (et l))) (B:=(w.heap.size+1,[{ target := .fn (.func 247) #[.pointer (some ⟨w.heap.size,0,none⟩)],args := #[] }])) (p:=p) ?_ (by rw [eZ];rfl) ⟨by simp,fun t v au=>?_,Eg,⟨[],by simp [marksOf],by simp,by simp⟩,fun l aE=>(by rw [uL] at aE;cases aE),by simp⟩) ?_
 ·have I:Ok s [(.own w.heap.size,.box 4 [.bool false])]:=⟨az,trivial⟩
  generalize w.heap.size=n at I ⊢;have aJ:=WS l0 hw.jZ l aE ab;have N':=Vq (w:=l0) (l:=l) (fun x h=>⟨(ab x h).node,(ab x h).leaf⟩);refine kB ?_;refine aa.b7 rfl rfl rfl rfl rfl aJ I .nil ?_ (fun _ _ ⟨_,h,_⟩ _=>by cases h);rintro _ _ ⟨mb,⟨⟩,es,rfl,cI⟩ I;have cc:u' (3*l.length) (et l):=⟨fun arg path h=>(N' (bs arg path)).1 (by show 2≤(path.length:Int);omega),cI.mH⟩;have fw:DZ l0 (et l):=⟨fun q=>(N' q).2⟩;have yU:=Xd l0 hw mb (3*l.length) ag (et l) cc fw (E:=[]) (mI (et l) mb es) ⟨es,rfl,cI⟩;skip;refine aa.b7 C C C C C yU I (aI.jt (aI.all _)) ?_ ?_
  ·rintro _ aP ⟨ah,du,rfl,je⟩ I
   cases hm:nN l0 (et l) with
   | false=>rw [hm] at ah;cases ah
   | true=>
    have ar:=bo.app (mI (et l) mb du) (bo.here (L:=[]) (k := .own n) (o := .box 4 [.bool false]));rw [d8] at I;refine aa.mv I [(.own n,.box 4 [.bool false])] (.cons ar .nil) (fun I=>?_);refine cv I ?_;intro I;exact ⟨rfl,rfl,_,rfl,I,_,.here⟩
  ·rintro x aP ⟨ah,du,rfl,je⟩ I
   cases hm:nN l0 (et l) with
   | true=>rw [hm] at ah;cases ah
   | false=>
    rw [hm] at ah;cases ah;exact ⟨rfl,rfl,rfl,_,rfl,I,_,_,bo.app _ .here⟩
 ·simp only [Env.get?] at au
  split at au
  ·rename_i e;cases au;obtain rfl:=ae0 e
   exact bu.mono hle
  split at au
  ·rename_i e;cases au;obtain rfl:=ae0 e
   exact U.mono hle
  split at au
  ·rename_i e;cases au;obtain rfl:=ae0 e
   simp [ag4];exact .ptr _ 0
  ·cases au
 ·rintro e c8 w' ⟨x,eX,ak,bj,bP,bk,hM,Ad,eF⟩
  obtain ⟨cf,tf,eM,dP⟩:=hM.defs;obtain ⟨cd,b1,ek,j8⟩:=F9 cf w' hM.wf (fun d ay=>⟨_,(dP d ay).2.1⟩);have bM:dc w p (hr w' cf) bj:=(hle.trans Ad).trans cd;have qV:=aA.trans hle.size eF;have bf:Kept s s w p (hr w' cf) bj:=⟨fun aW dR fZ=>(ek aW (fun hm=>by have:=(dP aW hm).1;simp only at this;omega)).trans (qV.heap aW dR fZ),fun _ _ h=>h,qV.lk⟩;have dN:=uv b1.lt (.cells #[] 291) True;have a2:=Cu (s:=s) (w:=hr w' cf) (p:=bj) (.cells #[] 291) True;cases bP with
  | exit id=>exact bk.elim
  | normal=>exact bk.elim
  | ret=>
   obtain ⟨a',aC,M,rfl,iO,R,oC⟩:=bk;have xt:=b1.sub iO.sub;obtain ⟨cr,mE,h5,Bx⟩:=b1.obj _ _ (oC.get iO);have By:cr = #[.bool true]:=by
    generalize aE:cr.toList=CU at h5;cases h5 with
    | cons v _ vs _ au aL=>
    cases aL;cases au;rw [← ao0 (xs:=cr),aE]
   subst By;have aw:w.heap.size<(hr w' cf).heap.size:=(t8.1 mE).1;have Bz:=(ml (hr w' cf) (.cells #[] 291) w.heap.size aw).trans mE;have jC:((hr w' cf).alloc (.cells #[] 291)).cell? ⟨w.heap.size,0,none⟩=some (.bool true):=by rw [jE Bz];rfl
   refine ⟨cf,tf,eM,fun d ay=>(dP d ay).2.1,?_⟩;refine leaves_cons (f := 247) (args := #[.pointer (some ⟨w.heap.size,0,none⟩)]) ba (by simp [go_sem]) ?_;refine (Yb w.heap.size _).mono ?_;rintro e jS mi ⟨rfl,rfl,rfl⟩;have xu:c8.tmps[4]?.getD undef = .pointer (some ⟨w.heap.size,0,none⟩):=by
    have:=hM.env 4 _ a';rw [ag4] at this;exact Ef this
   refine ⟨.bool true,by simp [results,Tryz.results211, go_sem,jC,xu],by simp,.ret (.bool true),s,_,.bool _,⟨by rw [aC],rfl⟩,bM.trans dN,bf.trans bM.size a2,zK xt _ True⟩
  | panic v x dA kT au=>
   obtain ⟨a',aC,rfl,M,rfl,iO,y,R,oC⟩:=bk;obtain ⟨rest,rfl,Ip⟩:=kT;obtain rfl:=Yd au;have xt:=b1.sub iO.sub;obtain ⟨cr,mE,h5,Bx⟩:=b1.obj _ _ (oC.get iO);obtain ⟨bv,rfl⟩:∃ bv,cr = #[bv]:=by
    generalize aE:cr.toList=CU at h5;cases h5 with
    | cons v _ vs _ au aL=>
    cases aL;exact ⟨v,by rw [← ao0 (xs:=cr),aE]⟩
   have aw:w.heap.size<(hr w' cf).heap.size:=(t8.1 mE).1;have Bz:=(ml (hr w' cf) (.cells #[] 291) w.heap.size aw).trans mE;have xu:c8.tmps[4]?.getD undef = .pointer (some ⟨w.heap.size,0,none⟩):=by
    have:=hM.env 4 _ a';rw [ag4] at this;exact Ef this
   obtain ⟨dT,dh,dJ,mP,td⟩:=L9 (bM.trans dN) (bf.trans bM.size a2) (zK xt _ True) Bz (g9 _) (fun o aD=>by
    rcases aD with aD|⟨e,-⟩
    ·exact Bx o aD
    ·omega) az (.bool false)
   have jC:(((hr w' cf).alloc (.cells #[] 291)).setRow w.heap.size #[.bool false]).cell? ⟨w.heap.size,0,none⟩=some (.bool false):=by rw [jE td];rfl
   refine ⟨cf,tf,eM,fun d ay=>(dP d ay).2.1,?_⟩;refine leaves_cons (f := 247) (args := #[.pointer (some ⟨w.heap.size,0,none⟩)]) ba (by simp [go_sem]) ?_;refine (Yc w.heap.size _ rest bv mE).mono ?_;rintro e jS mi ⟨rfl,rfl,rfl⟩;have Iq:=G7 Ip;simp only [settle,Iq];refine ⟨.bool false,by simp [results,Tryz.results211, go_sem,jC,xu],by simp,.ret (.bool false),s,_,.bool _,⟨by rw [aC],rfl⟩,dT,dh,dJ⟩
theorem Yg {w:World} {p:bU} {x:Value} (h:Rel w p x tQ):x = .iface 298 (.agg #[]):=by
 cases h with
 | iface _ y _ h=>
 cases h with
 | agg cs xs h=>
 generalize hE:cs.toList=l at h;cases h;have:cs = #[]:=by rw [← ao0 (xs:=cs),hE]
 rw [this]
theorem Yh (w:World):(Instr.typeAssert (.iface 298 (.agg #[])) 20 298 true).run d0 w = .ok (.tuple #[.agg #[],.bool true]) w:=by kernel_rfl
theorem Yi (w:World):(binOp BinOp.neq 20 (.iface 298 (.agg #[])) .nilIface).run d0 w = .ok (.bool true) w:=by kernel_rfl
theorem Yj (x y:Operand) (w:World):(eqGuard BinOp.neq 20 x y (.iface 298 (.agg #[])) .nilIface).run d0 w = .ok () w:=by
 unfold eqGuard;simp
theorem Yk (b:Nat) (w:World) :
  CallsD d0 253 #[.pointer (some ⟨b,0,none⟩)] .returning w fun e jS w'=>e = .returned (.tuple #[])∧jS = .returning∧w'=w:=by
 refine callsD_of_wpS Tryz.func253 C fun xr cs hu=>?_
 apply wpS_seq;apply wpS_region;simp [wpOpsS,go_sem,recoverD,hu,Tryz.ntmps253, Exit.thenS];refine wpS_of_wp ?_;go_wp2;cases xr;simp_all [bodyPostS,results,Tryz.results253, Exit.thenS]
theorem Yl (b:Nat) (w:World) (rest:List PanicEntry) (x:Value) (an:w.heap[b]? = some (.cells #[x] 4 (0,0))) :
  CallsD d0 253 #[.pointer (some ⟨b,0,none⟩)] (.panicking ({ v := .iface 298 (.agg #[]),recovered:=false }::rest)) w
   fun o jS w'=>o = .returned (.tuple #[])∧jS = .panicking ({ v := .iface 298 (.agg #[]),recovered:=true }::rest)∧w'=(w.alloc (.cells #[] 298)).setRow b #[.bool false]:=by
 refine callsD_of_wpS Tryz.func253 C fun xr cs hu=>?_
 apply wpS_seq;apply wpS_region;simp [wpOpsS,go_sem,recoverD,hu,Tryz.ntmps253, Exit.thenS];apply wpS_seq;apply wpS_region;simp [wpOpsS,go_sem,Exit.thenS,Yj,Yi];refine wpS_cond (t:=true) (by simp [Act.eval,Act.put]) ?_;simp only [ag7]
 repeat apply wpS_seq
 apply wpS_region;simp [wpOpsS,go_sem,Exit.thenS,Yh];have dR:=(ml w (.cells #[] 298) b (t8.1 an).1).trans an;have cV:(w.alloc (.cells #[] 298)).cell? ⟨b,0,none⟩=some x:=by rw [jE dR];rfl
 have pR:(w.alloc (.cells #[] 298)).frozen? ⟨b,0,none⟩=false:=by simp [World.frozen?,dR]
 have sh:=L' (x := .bool false) dR;generalize w.alloc (.cells #[] 298)=dn at cV pR sh ⊢
 repeat apply wpS_seq
 apply wpS_region;simp [wpOpsS,go_sem,Exit.thenS];refine wpS_of_wp ?_;go_wp2;cases xr;simp_all [bodyPostS,results,Tryz.results253, Exit.thenS];refine wpS_of_wp ?_;go_wp2;simp_all [bodyPostS,results,Tryz.results253, Exit.thenS]
def Ym (p0:al) (n:Nat) (G B:a8→Prop):b6→Env→al→Prop
 | .ret,env,ak=>env.get? 2=some (.ptr n 0)∧∃ M,ak=aS p0 M∧Ok p0 M∧∃ K,G K∧bo M (.own n) (.box 4 [.bool true]) K
 | .panic x,env,ak=>env.get? 2=some (.ptr n 0)∧x=tQ∧∃ M,ak=aS p0 M∧Ok p0 M∧∃ y K,B K∧bo M (.own n) (.box 4 [y]) K
 | _,_,_=>False
theorem Yn (f:FuncId) (first cap:List af) (m0:a8) (G B:a8→Prop) (h:di d0 (.func f first cap) [] m0 (fun o K=>(o = .ret (.cu [])∧G K)∨(o = .panic tQ∧B K))) :
  bF d0 220 [.func f first cap] m0 (fun o K=>(o = .ret (.bool true)∧G K)∨(o = .ret (.bool false)∧B K)):=by
 intro s Yo;refine ⟨call220, fun w p vs cg eT=>?_⟩;cases eT with
 | cons v0 _ vs _ bu aL=>
 cases aL;unfold sR;refine LF (T:=[{ target := .fn (.func 253) #[.pointer (some ⟨w.heap.size,0,none⟩)],args := #[] }]) Tryz.func220 C ?_;go_wp2;intro b uL eZ;obtain ⟨az,hle,aA,Eg⟩:=rQ cg (.cells #[Value.bool false] 4) (.box 4 [.bool false]) (fun w' U ad aj=>⟨#[.bool false],U,aj _ _ (.cons _ _ _ _ (.bool _) .nil),fun o aD=>absurd (cg.lt _ _ aD) ag⟩);have I:Ok s ((.own w.heap.size,.box 4 [.bool false])::m0):=⟨az,Yo⟩;refine mh (ae.use (N:=6) (env:=[(0,.func f first cap),(2,.ptr w.heap.size 0)]) (s:=aS s ((.own w.heap.size,.box 4 [.bool false])::m0)) (Q:=Ym s w.heap.size G B) (B:=(w.heap.size+1,[{ target := .fn (.func 253) #[.pointer (some ⟨w.heap.size,0,none⟩)],args := #[] }])) (p:=p) ?_ (by rw [eZ];rfl) ⟨by simp,fun t v au=>?_,Eg,⟨[],by simp [marksOf],by simp,by simp⟩,fun l aE=>(by rw [uL] at aE;cases aE),by simp⟩) ?_
 ·clear aA Eg az
  generalize w.heap.size=n at I ⊢;refine kB ?_;refine aa.gJ C C C C C C h I (aI.there (e:=(.own n,.box 4 [.bool false])) (aI.all m0)) ?_ ?_
  ·rintro _ aP (⟨⟨⟩,dw⟩|⟨h,_⟩) I
   ·have ar:=bo.app aP (bo.here (L:=[]) (k := .own n) (o := .box 4 [.bool false]))
    rw [d7] at ar;refine cv I ?_;intro I;exact ⟨rfl,_,rfl,I,aP,dw,.here⟩
   ·cases h
  ·rintro x aP (⟨h,_⟩|⟨⟨⟩,cI⟩) I
   ·cases h
   exact ⟨rfl,rfl,_,rfl,I,_,aP,cI,by have:=bo.app aP (bo.here (L:=[]) (k := .own n) (o := .box 4 [.bool false]));rw [d7] at this;exact this⟩
 ·simp only [Env.get?] at au
  split at au
  ·rename_i e;cases au;obtain rfl:=ae0 e
   exact bu.mono hle
  split at au
  ·rename_i e;cases au;obtain rfl:=ae0 e
   simp [ag4];exact .ptr _ 0
  ·cases au
 ·rintro e c8 w' ⟨x,eX,ak,bj,bP,bk,hM,Ad,eF⟩
  obtain ⟨cf,tf,eM,dP⟩:=hM.defs;obtain ⟨cd,b1,ek,j8⟩:=F9 cf w' hM.wf (fun d ay=>⟨_,(dP d ay).2.1⟩);have bM:dc w p (hr w' cf) bj:=(hle.trans Ad).trans cd;have qV:=aA.trans hle.size eF;have bf:∀ aP,al.Sub (aS s aP) ak→Kept (aS s m0) (aS s aP) w p (hr w' cf) bj:=fun aP fX=>⟨fun aW dR fZ=>(ek aW (fun hm=>by have:=(dP aW hm).1;simp only at this;omega)).trans (qV.heap aW dR fZ),fun b an h=>fX.none (qV.kR b an h),qV.lk⟩
  cases bP with
  | exit id=>exact bk.elim
  | normal=>exact bk.elim
  | ret=>
   obtain ⟨a',M,rfl,iO,aP,dw,oC⟩:=bk;obtain ⟨na,hA⟩:=oC.perm iO;have fX:al.Sub (aS s aP) (aS s M):=by rw [na];exact yn (k := .own w.heap.size) Lq hA.1
   have xt:=b1.sub fX;obtain ⟨cr,mE,h5,Bx⟩:=b1.obj _ _ (oC.get iO);have By:cr = #[.bool true]:=by
    generalize aE:cr.toList=CU at h5;cases h5 with
    | cons v _ vs _ au aL=>
    cases aL;cases au;rw [← ao0 (xs:=cr),aE]
   subst By;have jC:(hr w' cf).cell? ⟨w.heap.size,0,none⟩=some (.bool true):=by rw [jE mE];rfl
   refine ⟨cf,tf,eM,fun d ay=>(dP d ay).2.1,?_⟩;refine leaves_cons (f := 253) (args := #[.pointer (some ⟨w.heap.size,0,none⟩)]) ba (by simp [go_sem]) ?_;refine (Yk w.heap.size _).mono ?_;rintro e jS mi ⟨rfl,rfl,rfl⟩;have xu:c8.tmps[2]?.getD undef = .pointer (some ⟨w.heap.size,0,none⟩):=by
    have:=hM.env 2 _ a';rw [ag4] at this;exact Ef this
   exact ⟨.bool true,by simp [results,Tryz.results220, go_sem,jC,xu],by simp,.ret (.bool true),aS s aP,_,.bool _,⟨aP,rfl,hA.2,.inl ⟨rfl,dw⟩⟩,bM,bf aP fX,xt⟩
  | panic v x dA kT au=>
   obtain ⟨a',rfl,M,rfl,iO,y,aP,cI,oC⟩:=bk;obtain ⟨rest,rfl,Ip⟩:=kT;obtain rfl:=Yg au;obtain ⟨na,hA⟩:=oC.perm iO;have fX:al.Sub (aS s aP) (aS s M):=by rw [na];exact yn (k := .own w.heap.size) Lq hA.1
   have xt:=b1.sub fX;have dN:=uv b1.lt (.cells #[] 298) True;have a2:=Cu (s:=aS s aP) (w:=hr w' cf) (p:=bj) (.cells #[] 298) True;obtain ⟨cr,mE,h5,Bx⟩:=b1.obj _ _ (oC.get iO);obtain ⟨bv,rfl⟩:∃ bv,cr = #[bv]:=by
    generalize aE:cr.toList=CU at h5;cases h5 with
    | cons v _ vs _ au aL=>
    cases aL;exact ⟨v,by rw [← ao0 (xs:=cr),aE]⟩
   have aw:w.heap.size<(hr w' cf).heap.size:=(t8.1 mE).1;have Bz:=(ml (hr w' cf) (.cells #[] 298) w.heap.size aw).trans mE;have xu:c8.tmps[2]?.getD undef = .pointer (some ⟨w.heap.size,0,none⟩):=by
    have:=hM.env 2 _ a';rw [ag4] at this;exact Ef this
   obtain ⟨dT,dh,dJ,mP,td⟩:=L9 (bM.trans dN) ((bf aP fX).trans bM.size a2) (zK xt _ True) Bz (g9 _) (fun o aD=>by
    rcases aD with aD|⟨e,-⟩
    ·exact Bx o aD
    ·omega) hA.1 (.bool false)
   have jC:(((hr w' cf).alloc (.cells #[] 298)).setRow w.heap.size #[.bool false]).cell? ⟨w.heap.size,0,none⟩=some (.bool false):=by rw [jE td];rfl
   refine ⟨cf,tf,eM,fun d ay=>(dP d ay).2.1,?_⟩;refine leaves_cons (f := 253) (args := #[.pointer (some ⟨w.heap.size,0,none⟩)]) ba (by simp [go_sem]) ?_;refine (Yl w.heap.size _ rest bv mE).mono ?_;rintro e jS mi ⟨rfl,rfl,rfl⟩;have Iq:=G7 Ip;simp only [settle,Iq];exact ⟨.bool false,by simp [results,Tryz.results220, go_sem,jC,xu],by simp,.ret (.bool false),aS s aP,_,.bool _,⟨aP,rfl,hA.2,.inr ⟨rfl,cI⟩⟩,dT,dh,dJ⟩
end Go.Proofs.YtnafpeohfbglmaaGreat
