import Derived.Test.YtnafpeohfbglmaaGreatSe
import Derived.Shelf.Sort.Plain
import Derived.KernelRfl
set_option linter.unusedVariables false
set_option linter.unusedSimpArgs false
set_option maxRecDepth 100000
set_option maxHeartbeats 4000000
open Array renaming getElem?_eq_some_iff→i9,length_toList→ae9
open Bool renaming and_eq_true→f8,and_false→ak8,eq_false_iff→ah4,eq_iff_iff→af7,false_and→f9,false_eq_true→af8,false_or→ag6,not_false→aj3,not_true→ak2,or_eq_false_iff→al1,or_true→ap2,true_and→f5,true_or→ak3
open Int renaming le_refl→ak9,toNat_natCast→ae1
open Go.IntKind renaming wrap→t7
open List renaming Perm→am1,all_eq_false→ax1,all_eq_true→ah2,any_eq_false→ak',any_eq_true→ag4,append_assoc→ah0,append_nil→d6,append_of_mem→au2,cons_append→aa',contains_append→an9,contains_iff_mem→ah8,drop_eq_getElem_cons→at5,drop_zero→am6,ext_getElem?→aq6,filter_cons→ah9,find?_eq_none→aw3,find?_some→ay0,findIdx?_eq_none_iff→ai2,findIdx?_eq_some_iff_getElem→ah3,flatMap_append→av9,flatMap_cons→ak0,flatten_cons→as6,foldl_append→ao0,foldl_cons→ah7,getD_cons_succ→av8,getD_cons_zero→aA1,getD_eq_getElem?_getD→d7,getElem?_append_left→ag0,getElem?_append_right→af4,getElem?_eq_getElem→f7,getElem?_eq_none→am5,getElem?_eq_some_iff→ae2,getElem?_map→ae4,getElem?_of_mem→ai0,getElem?_set_self→aj9,getElem?_set→au6,getElem?_take→ai4,getElem_mem→an6,isEmpty_iff_length_eq_zero→au',length_append→f6,length_cons→g9,length_drop→ai1,length_eq_zero_iff→ax',length_map→d9,length_mergeSort→as9,length_nil→af6,length_replicate→af3,length_set→af1,length_singleton→ag8,length_take→ae8,map_append→ad',map_cons→ae3,map_set→al',mem_append_left→aj0,mem_append_right→ao6,mem_append→ae',mem_cons_of_mem→i0,mem_cons_self→i6,mem_cons→af2,mem_filter→ah6,mem_map→af',mem_of_find?_eq_some→at3,mem_of_getElem?→d5,mem_or_eq_of_mem_set→aj7,mem_singleton→H1,nil_append→d8,nodup_append→ap4,perm_append_comm_assoc→aw2,perm_append_comm→as8,perm_cons→aC8,perm_middle→an5,range_succ→aq2,range→ag3,replicate_succ'→ap1,replicate→t6,set_append_left→az2,set_append_right→al8,set_set→ar1,take_append_drop→ai9,take_append_of_le_length→ai7,take_left'→aq3,take_length→ae5,take_of_length_le→ag9,take_zero→al4
open Nat renaming add_comm→ar0,add_sub_cancel_left→ar5,beq→af0,blt→t8,eq_of_beq_eq_true→ae0,le_refl→g8,le_succ→aB2,lt_of_lt_of_le→al2,lt_or_ge→aq',lt_succ_iff_lt_or_eq→ah5,min_eq_left→am8,mul_le_mul_right→am9,mul_one→ag',not_lt_zero→an2,or_lt_two_pow→aj4,pow_le_pow_right→ag2,pow_lt_pow_right→ai',sub_self→ap9,succ_mul→ax4,testBit_lt_two_pow→an0,zero_add→af5,zero_le→g7
open Option renaming bind_none→ai6,bind_some→aj5,getD_some→af9,some→ao1
open Go.Result renaming andThen_ok→i5
open Go.Sem renaming run_bind→ac',run_pure→ae6
open Go.Proofs.Tryz renaming prog→d0
namespace Go.Proofs.YtnafpeohfbglmaaGreat
theorem NR {p:Prop} (h:p:=by repeat (first|exact trivial|refine ⟨⟨_,rfl,aJ⟩,?_⟩|refine ⟨⟨_,rfl,aQ.of_eq (by (rw [h7 (by omega)];rfl))⟩,?_⟩)):p:=h
theorem El {p:Prop} (h:p:=by repeat (first|exact trivial|refine ⟨⟨_,rfl,aJ⟩,?_⟩|refine ⟨⟨_,rfl,aQ.of_eq (by (rw [jG]))⟩,?_⟩)):p:=h
theorem Em {p:Prop} (h:p:=by repeat (first|exact aG.all _|(apply aG.cons;· repeat (first|exact bo.here|apply bo.there)))):p:=h
theorem Ie {p:Prop} (h:p:=by show (σ (bx arg path)).bp.length-(j+1)<(σ (bx arg path)).bp.length-j;omega):p:=h
theorem Ig {p:Prop} (h:p:=by rw [List.take_left' (by simp),List.all_map];simp [Function.comp_def,a8,fe]):p:=h
theorem Ih {p:Prop} (h:p:=by show eu.parents.length-(k+1)<eu.parents.length-k;omega):p:=h
theorem qH {p:Prop} (h:p:=by show x.kids.length-(j+1)<x.kids.length-j;omega):p:=h
theorem En {p:Prop} (h:p:=by rw [List.getElem?_map,m6];rfl):p:=h
theorem Eo {p:Prop} (h:p:=by rw [List.length_set];exact g3):p:=h
theorem Ep {p:Prop} (h:p:=by show (L.length+1)*48≤_;omega):p:=h
theorem pV {p:Prop} (h:p:=by rw [List.length_map];omega):p:=h
theorem oW {p:Prop} (h:p:=by simpa using cL):p:=h
theorem sF {p:Prop} (h:p:=by simpa using az):p:=h
open Go.Shelf Go.Sort Go.Proofs
def Xe:Go.Shelf.Ren:=⟨fun|189=>276|125=>290|257=>289|128=>303|129=>304|294=>294|295=>295|296=>296|297=>297|298=>298|299=>299|216=>300|300=>301|301=>302|328=>309|329=>310|330=>311|331=>312|332=>313|215=>314|343=>317|n=>n,fun|28=>23|3=>3|46=>303|0=>0|51=>329|53=>104|4=>4|183=>356|182=>355|131=>164|5=>5|9=>9|218=>363|222=>251|228=>368|229=>126|n=>n,fun n=>n⟩
theorem Xf:Lays.n189 d0 Xe where
 mixed:=by kernel_rfl
 f125 := Tryz.func290.trans (ae7 some gj)
 f128 := Tryz.func303.trans (ae7 some gj)
 f129 := Tryz.func304.trans (ae7 some gj)
 f189 := Tryz.func276.trans (ae7 some gj)
 f215 := Tryz.func314.trans (ae7 some gj)
 f216 := Tryz.func300.trans (ae7 some gj)
 f257 := Tryz.func289.trans (ae7 some gj)
 f294 := Tryz.func294.trans (ae7 some gj)
 f295 := Tryz.func295.trans (ae7 some gj)
 f296 := Tryz.func296.trans (ae7 some gj)
 f297 := Tryz.func297.trans (ae7 some gj)
 f298 := Tryz.func298.trans (ae7 some gj)
 f299 := Tryz.func299.trans (ae7 some gj)
 f300 := Tryz.func301.trans (ae7 some gj)
 f301 := Tryz.func302.trans (ae7 some gj)
 f328 := Tryz.func309.trans (ae7 some gj)
 f329 := Tryz.func310.trans (ae7 some gj)
 f330 := Tryz.func311.trans (ae7 some gj)
 f331 := Tryz.func312.trans (ae7 some gj)
 f332 := Tryz.func313.trans (ae7 some gj)
 f343 := Tryz.func317.trans (ae7 some gj)
 t0 := Tryz.underlying0
 a0 := Tryz.isAgg0
 z0 := Tryz.sizeOf0
 v0 := Tryz.zeroValue0
 t3 := Tryz.underlying3
 a3 := Tryz.isAgg3
 z3 := Tryz.sizeOf3
 v3 := Tryz.zeroValue3
 t4 := Tryz.underlying4
 a4 := Tryz.isAgg4
 z4 := Tryz.sizeOf4
 v4 := Tryz.zeroValue4
 t5 := Tryz.underlying5
 a5 := Tryz.isAgg5
 z5 := Tryz.sizeOf5
 v5 := Tryz.zeroValue5
 t9 := Tryz.underlying9
 a9 := Tryz.isAgg9
 z9 := Tryz.sizeOf9
 v9 := Tryz.zeroValue9
 t28 := Tryz.underlying23
 a28 := Tryz.isAgg23
 z28 := Tryz.sizeOf23
 v28 := Tryz.zeroValue23
 t46 := Tryz.underlying303
 a46 := Tryz.isAgg303
 z46 := Tryz.sizeOf303
 v46 := Tryz.zeroValue303
 t51 := Tryz.underlying329
 a51 := Tryz.isAgg329
 z51 := Tryz.sizeOf329
 v51 := Tryz.zeroValue329
 t53 := Tryz.underlying104
 a53 := Tryz.isAgg104
 z53 := Tryz.sizeOf104
 v53 := Tryz.zeroValue104
 t131 := Tryz.underlying164
 a131 := Tryz.isAgg164
 z131 := Tryz.sizeOf164
 v131 := Tryz.zeroValue164
 t182 := Tryz.underlying355
 a182 := Tryz.isAgg355
 z182 := Tryz.sizeOf355
 v182 := Tryz.zeroValue355
 t183 := Tryz.underlying356
 a183 := Tryz.isAgg356
 z183 := Tryz.sizeOf356
 v183 := Tryz.zeroValue356
 t218 := Tryz.underlying363
 a218 := Tryz.isAgg363
 z218 := Tryz.sizeOf363
 v218 := Tryz.zeroValue363
 t222 := Tryz.underlying251
 a222 := Tryz.isAgg251
 z222 := Tryz.sizeOf251
 v222 := Tryz.zeroValue251
 t228 := Tryz.underlying368
 a228 := Tryz.isAgg368
 z228 := Tryz.sizeOf368
 v228 := Tryz.zeroValue368
 t229 := Tryz.underlying126
 a229 := Tryz.isAgg126
 z229 := Tryz.sizeOf126
 v229 := Tryz.zeroValue126
theorem Xg (sm off cap:Nat) (aW:List Int) (w:World) (G3:Holds (Value.int .i64) w sm off aW.toArray) (Xh:sm<w.heap.size) (cc:aW.length<4611686018427387904) :
  Calls d0 276 #[.slice (some ⟨sm,off,none⟩) aW.length cap] w fun e w'=>
   e = .returned (.tuple #[])∧∃ n os,w'=grow (putRow (Value.int .i64) (Sort.ahead w n) sm off (aW.mergeSort fun x y=>decide (x≤y)).toArray) os:=
 Any.slices_Sort_int Xf sm off cap aW w G3 Xh cc
theorem Xi (w:World) (p:bV) (v:Value) (a:Int) (h:Rel w p v (.int .i64 a)):v = .int .i64 a:=by cases h;rfl
theorem Ii (b cap:Nat) (l:List Int) (rest:List ag) (aC:l.length<4611686018427387904) :
  bA d0 276 [ee b l.length cap] [(.own b,.box 3 (l.map a8++rest))] (fun o K=>o = .ret (.cw [])∧K=[(.own b,.box 3 ((l.mergeSort fun x y=>decide (x≤y)).map a8++rest))]):=
 bA.sort (α:=Int) (enc:=Value.int .i64) (encA:=a8) (le:=fun x y=>decide (x≤y)) call276 Xi (fun w p a => .int _ _) Xg b cap l rest aC
theorem bo.NS {L:a'} {k:bN} {o:dH} {a b:a'} (h:L=a++(k,o)::b):bo L k o (a++b):=by
 subst h;exact bo.app a .here
theorem aG.iA:∀ {K L:a'},L.Perm K→aG L K []
  | [],L,h=>by
    have:L=[]:=h.eq_nil;subst this;exact .nil
  | (k,o)::K,L,h=>by
    obtain ⟨a,b,iz⟩:=au2 (h.symm.subset i6);refine .cons (bo.NS iz) (aG.iA ?_);rw [iz] at h;exact (aC8 _).1 (an5.symm.trans h)
theorem NT (s:ao) (L:a'):∀ (sG:a'),(∀ x∈sG,x.1 = .nil)→aS s (sG++L)=aS s L∧(Ok s L→Ok s (sG++L))
  | [],_=>⟨rfl,id⟩
  | (k,o)::sG,h=>by
    have aE:k = .nil:=h (k,o) i6;subst aE;obtain ⟨U,ad⟩:=NT s L sG fun x ab=>h x (i0 _ ab)
    exact ⟨U,fun I=>⟨trivial,ad I⟩⟩
theorem bA.frame {P:Program} {f:FuncId} {args:List ag} {K L R:a'} {aef D:eC→a'→Prop} (h:bA P f args K aef) (ar:aG L K R) (fa:∀ o aO,aef o aO→∃ sG M,(∀ x∈sG,x.1 = .nil)∧(sG++(aO++R)).Perm M∧D o M):bA P f args L D:=
 fun s I=>(h.at I ar).mono fun o aj ⟨Vf,e,yW,aO,HC,HD⟩=>by
  subst HC;obtain ⟨sG,M,Xj,aF,eI⟩:=fa o aO HD;obtain ⟨lb,Ej⟩:=NT s (aO++R) sG Xj;obtain ⟨U,ad⟩:=(aG.iA aF).perm (Ej yW);rw [d6] at U ad;exact ⟨M,e.trans (lb.symm.trans U),ad,eI⟩
abbrev rN:=Option (Nat×Nat×List ag)
def lk:rN→List Int→ag
 | none,_ => .aA 0 [] .nil
 | some (g,cap,_),l=>ee g l.length cap
def jU:rN→List Int→a'
 | none,_=>[]
 | some (g,_,eg),l=>[(.own g,.box 3 (l.map a8++eg))]
def sH:rN→List Int→Prop
 | none,l=>l=[]
 | some (_,cap,eg),l=>l.length+eg.length=cap
structure gd where
 sp:List Int
 b:Nat
 on:bN
 bu:rN
def iN (σ:d') (e:gd):a':=pU e.b (σ e.sp) e.on (lk e.bu (σ e.sp).bp)++jU e.bu (σ e.sp).bp
def ny (es:List gd):SMap:=es.map fun e=>(e.sp,.ptr e.b 0)
def mh (σ:d') (mb:Nat) (es:List gd):a':=rM mb (ny es)::es.flatMap (iN σ)
structure mT (n:Nat) (k:dv):Prop where
 gb:k.gb<2^64
 no:k.no<2^64
 e6:k.e6.length≤n
 bp:k.bp.length≤n
 num : -1000000000≤k.low∧k.low≤1000000000 ∧ -1000000001≤k.high∧k.high≤1000000000
structure pW (n:Nat) (σ:d') (es:List gd):Prop where
 four:∀ e∈es,e.sp.length=4
 nodup:(es.map gd.sp).Nodup
 rest:∀ q,q∉es.map gd.sp→σ q=je
 bu:∀ e∈es,sH e.bu (σ e.sp).bp
 mU:∀ q,mT n (σ q)
theorem Xk {es:List gd} {sp:List Int}:(ny es).find? (fun e=>e.1==sp)=none↔sp∉es.map gd.sp:=by
 unfold ny;rw [aw3];constructor
 ·intro h hm
  obtain ⟨e,he,rfl⟩:=af'.1 hm;have:=h _ (af'.2 ⟨e,he,rfl⟩);simp at this
 ·intro h x ab
  obtain ⟨e,he,rfl⟩:=af'.1 ab;simp only [al6];intro bU;exact h (af'.2 ⟨e,he,bU⟩)
theorem Xl {es:List gd} {sp:List Int} {x:List Int×ag} (h:(ny es).find? (fun e=>e.1==sp)=some x):∃ e∈es,e.sp=sp∧x=(e.sp,.ptr e.b 0):=by
 unfold ny at h;have U:=at3 h;have ad:=ay0 h;obtain ⟨e,he,rfl⟩:=af'.1 U;exact ⟨e,he,by simpa using ad,rfl⟩
theorem Xm (n:Nat):mT n je:=⟨by decide,by decide,by simp [je],by simp [je],by simp [je]⟩
theorem NU (w:bz) (mb n:Nat) (σ:d') (es:List gd) (cG:pW n σ es) (hR ea dj dQ:Int) :
    bA d0 280 [ib w mb,iM [hR,ea,dj,dQ]] (mh σ mb es) (fun o K=>∃ pre e post,e.sp=[hR,ea,dj,dQ]∧o = .ret (.ptr e.b 0)∧K=mh σ mb (pre++e::post)∧pW n σ (pre++e::post)):=by
  have h:=NN (.aA 1 [] .nil) (.aA 0 [] .nil) (aQ.nil gN) aJ w mb (ny es) (fun e he=>by
    unfold ny at he
    obtain ⟨x,ab,rfl⟩:=af'.1 he
    exact cG.four x ab) hR ea dj dQ
  refine bA.frame h (R:=es.flatMap (iN σ)) (.cons .here .nil) ?_;rintro o aO (⟨x,ab,rfl,rfl⟩|⟨a7,b,rfl,rfl⟩)
  · obtain ⟨e,he,U,rfl⟩:=Xl ab
    obtain ⟨pre,post,rfl⟩:=au2 he;exact ⟨[],_,by simp,am1.refl _,pre,e,post,U,rfl,rfl,cG⟩
  · have kg:=Xk.1 a7
    have Br:=cG.rest _ kg;refine ⟨[(.nil,.row 3 1 0)],mh σ mb (es++[⟨[hR,ea,dj,dQ],b,.nil,none⟩]),by simp,?_,es,⟨[hR,ea,dj,dQ],b,.nil,none⟩,[],rfl,rfl,rfl,?_⟩
    · have b2:iN σ ⟨[hR,ea,dj,dQ],b,.nil,none⟩=[(.own b,.box 340 NM),(.nil,.row 3 1 0)]:=by
        unfold iN;rw [Br];rfl
      unfold mh;rw [av9,List.flatMap_singleton,b2];have bU:ny (es++[⟨[hR,ea,dj,dQ],b,.nil,none⟩])=ny es++[([hR,ea,dj,dQ],.ptr b 0)]:=by unfold ny;rw [ad'];rfl
      rw [bU];refine (am1.swap _ _ _).trans (am1.cons _ ((am1.swap _ _ _).trans ?_));exact as8 (l₁:=[(.own b,.box 340 NM),(.nil,.row 3 1 0)]) (l₂:=es.flatMap (iN σ))
    · refine ⟨fun e he=>?_,?_,fun q br=>cG.rest q (fun hm=>br (by rw [ad'];exact aj0 _ hm)),fun e he=>?_,cG.mU⟩
      · rcases ae'.1 he with he|he
        · exact cG.four e he
        · rw [H1] at he;subst he;rfl
      · rw [ad',ap4]
        refine ⟨cG.nodup,by simp,fun a a6 b an=>?_⟩;rw [List.map_singleton,H1] at an;subst an;intro e;subst e;exact kg a6
      · rcases ae'.1 he with he|he
        · exact cG.bu e he
        · rw [H1] at he;subst he
          show (σ _).bp=[];rw [Br];rfl
theorem Xn (_u:Unit):aT d0 304 [.int .u64 0] (.int .i64 0):=by
 have an:=bD;refine aT.bh ah Tryz.func304 C C fun s I=>?_
 refine bl ?_;refine aa.As ah 0 C C C C C C C C du C ?_;refine bl ?_;exact bB I
theorem Xo (_u:Unit):aT d0 290 [.int .u64 0] (.int .i64 0):=by
 have an:=bD;refine aT.bh ah Tryz.func290 C C fun s I=>?_
 have U:=Xn ();refine b' ?_;exact bB I
theorem Xp (_u:Unit):aT d0 294 [.aA 0 [] .nil,.int .i64 0,.int .i64 0] (.cw []):=by
 have an:=bD;refine aT.bh ah Tryz.func294 C C fun s I=>?_
 refine fP ?_;refine ae.b5 [1,2] C I (σ:=Unit) (fun _=>[(6,.int .i64 1)]) (fun _=>[]) (fun _=>True) (fun _=>0) () trivial (cl C) aX ?_;rintro _ _ I;refine bl ?_;exact bB I
theorem Xq (_u:Unit):aT d0 289 [.aA 0 [] .nil,.int .i64 0,.int .i64 0,.int .i64 0] (.cw []):=by
 have an:=bD;refine aT.bh ah Tryz.func289 C C fun s I=>?_
 have U:=Xp ();refine fP ?_;refine ae.b5 [0,1,2,3] C I (σ:=Unit) (fun _=>[]) (fun _=>[]) (fun _=>True) (fun _=>0) () trivial (cl C) aX ?_;rintro _ _ I;refine b' ?_;exact bB I
theorem Xr (_u:Unit):aT d0 276 [.aA 0 [] .nil] (.cw []):=by
 have an:=bD;refine aT.bh ah Tryz.func276 C C fun s I=>?_
 have U:=Xo ();have ad:=Xq ();refine b' ?_;exact bB I
def rO (fp:ku) (up:List Int):Prop:=∀ n,oS fp n=if up.contains n then some (.bool true) else none
theorem rO.put {fp:ku} {up:List Int} (h:rO fp up) (x:Int):rO (sC fp x (.bool true)) (up++[x]):=fun n=>by
 rw [HQ,h n];by_cases e:n=x
 ·subst e;simp
 ·rw [f0 e]
  have:(up++[x]).contains n=up.contains n:=by
   rw [af7];simp [e]
  rw [this]
theorem rO.look {fp:ku} {up:List Int} (h:rO fp up) (n:Int):jj (qw fp) (.int .i64 n)=some (if up.contains n then some (.bool true) else none):=by rw [vb,h n]
theorem BF (l:List Int):(l.map a8).all fe=true:=by rw [List.all_map];simp [Function.comp_def,a8,fe]
structure NV (p:bT):Prop where
 ja:p.cm.length≤10
 each:∀ c∈p.cm,c.parents.length≤3∧c.bp.length≤4
theorem Xs (p:bT) (aF:NV p) (c:Nat) (aB:c<p.cm.length):aT d0 256 [cW p,.int .i64 ((c:Int)+3)] (bd (pM p c)):=by
 have an:=bD;refine aT.bh ah Tryz.func256 C C fun s I=>?_
 have tV:=aF.ja;unfold cW cZ
 repeat (first|(refine sk ?_)|refine aa.jC I C C C C C C (fun b I=>?_)|(refine DF ?_))
 refine aa.sj I C C C C (fun mb I=>?_);refine dU ?_;refine aa.nh ah I C C (.inr C) C C C C C C aW C (vc ((c:Int)+3) (.bool true) []) (fun I=>?_);refine dG ?_;refine ae.b5 [2] C I (σ:=Nat×List Int×List Int×rN×ku) (fun q=>[(7,.int .i64 ((q.1:Int)+2)),(5,.map mb),(6,lk q.2.2.2.1 q.2.2.1)]) (fun q=>[(.own b,.box 27 (cZ p)),(.own mb,.map (qw q.2.2.2.2))]++jU q.2.2.2.1 q.2.2.1)
  (fun q=>q.1≤c+1∧oO p.cm q.1 q.2.1 q.2.2.1=oO p.cm (c+1) [(c:Int)+3] []∧rO q.2.2.2.2 q.2.1∧sH q.2.2.2.1 q.2.2.1∧q.2.2.1.length+4*q.1≤4*(c+1)) (fun q=>q.1) (c+1,[(c:Int)+3],[],none,[((c:Int)+3,.bool true)])
  ⟨g8 _,rfl,fun n=>by unfold oS;by_cases e:n=(c:Int)+3<;>simp [e],rfl,by simp⟩ ⟨⟨_,rfl,aQ.of_eq cV⟩,⟨_,rfl,aJ⟩,⟨_,rfl,aJ⟩,trivial⟩ (by simp only [jU,d6,cZ];exact aX) ?_
 rintro ⟨k,up,out,bu,fp⟩ ⟨aE,aq,qD,cR,fZ⟩ I;simp only at aE aq qD cR fZ I ⊢;unfold cZ at I ⊢;refine fI ?_;refine ae.cond C (fun au=>?_) (fun aV=>?_);rotate_left
 ·have aV:k=0:=by simp at aV;omega
  subst aV;have aq:out=oO p.cm (c+1) [(c:Int)+3] []:=aq;have aD:pM p c=pL out:=by unfold pM;rw [← aq]
  rw [aD];rcases bu with _|⟨g,cap,eg⟩
  ·have:out=[]:=cR
   subst this;have U:=Xr ();have ad:=HR [] .nil;have ad:=aT.args (show cU [.aA 0 [] .nil] [.aA 1 [] .nil] from .one (aQ.nil gN)) ad;refine c2 ?_;rw [show pL []=[] by unfold pL;simp];exact Fin.cB I C aQ.bb
  ·have kE:out.length+eg.length=cap:=cR
   have U:=Ii g cap out eg af;have ad:=HR ((pL out).map a8) .bb;simp only [jU,lk,aa',d8] at I ⊢;refine c2 ?_;refine aa.bX rfl rfl rfl rfl rfl U I (.cons aW .nil) ?_ (fun _ _ ⟨h,_⟩ _=>by cases h);rintro _ _ ⟨⟨⟩,rfl⟩ I;simp only [aa',d8] at I ⊢;have e:((pL out).map a8++eg).take out.length=(pL out).map a8:=aq3 (by unfold pL;simp);have vk:(pL out).length=out.length:=by unfold pL;simp
   refine aa.run ah C (aa.nil ?_);refine b0 ?_;refine ae.tG I 6 g (cs:=(pL out).map a8++eg) C .here (by rw [f6,d9];omega) af af (by rw [e];exact BF _) (fun I=>?_);rw [e];refine c2 ?_;exact Fin.cB I C aQ.bb
 have au:1≤k:=by simp at au;omega
 obtain ⟨i,rfl⟩:∃ i,k=i+1:=⟨k-1,by omega⟩;have ll:=qD.look ((i:Int)+3);have av:oO p.cm (i+1) up out=if up.contains ((i:Int)+3) then oO p.cm i (up++(p.cm.getD i default).parents) (out++(p.cm.getD i default).bp) else oO p.cm i up out:=rfl
 rw [av] at aq;have NW:(((i+1:Nat):Int)+2)=(i:Int)+3:=by omega
 rw [NW];have sI:i<p.cm.length:=by omega
 obtain ⟨eu,cy,BG⟩:=b8 (f:=jo) sI;have k6:p.cm.getD i default=eu:=by rw [d7,cy];rfl
 rw [k6] at aq;obtain ⟨Nf,hI⟩:=aF.each eu (d5 cy);have dm:t7 .i64 ((i:Int)+3-3)=(i:Int):=by rw [dz af af];omega
 have jG:t7 .i64 ((i:Int)+3-1)=(i:Int)+2:=by rw [dz af af];omega
 refine dG ?_;cases sJ:up.contains ((i:Int)+3) with
 | false=>
  rw [sJ] at aq ll;simp only [af8,ah'] at aq ll;refine aa.jD ah I C C C C C C C C C C (.there .here) C ll C ?_;refine c2 ?_;exact bn.mk (i,up,out,bu,fp) I ⟨by omega,aq,qD,cR,by show out.length+4*i≤4*(c+1);omega⟩ El (aG.dB _) (by show i<i+1;omega)
 | true=>
  rw [sJ] at aq ll;simp only [ag7] at aq ll;unfold jo nt bd at BG;refine aa.jD ah I C C C C C C C C C C (.there .here) C ll C ?_;refine cC I ?_;intro I;refine aa.idx ah i C C C C C C C C C C dm BG C ?_;refine dU ?_;rcases bu with _|⟨g,cap,eg⟩
  ·have bq:out=[]:=cR
   by_cases Ij:eu.bp=[]
   ·refine aa.nV 28 (.aA 1 [] .bb) C (aQ.of_eq (by rw [Ij];rfl)) ?_
    refine aa.HN ah C C C C C C C di C C C ?_;have xu:sH none (out++eu.bp):=by rw [bq,Ij];rfl
    refine cC I ?_;intro I;refine aa.idx ah i C C C C C C C C C C dm BG C ?_;refine dG ?_;refine ae.b5 [2,5,6,7,36,37] C I (σ:=Nat×ku) (fun q=>[(38,.int .i64 (q.1:Int))]) (fun q=>(.own mb,.map (qw q.2))::(.own b,.box 27 (cZ p))::jU none (out++eu.bp)) (fun q=>q.1≤eu.parents.length∧rO q.2 (up++eu.parents.take q.1)) (fun q=>eu.parents.length-q.1) (0,fp) ⟨g7 _,by rw [al4,d6];exact qD⟩ (cl C) (.cons (.there .here) (.cons .here .nil)) ?_;rintro ⟨k,BH⟩ ⟨iF,oX⟩ I;simp only [cZ] at iF oX I ⊢;refine fI ?_;refine ae.cond C (fun cI=>?_) (fun dV=>?_)
    ·have cI:k<eu.parents.length:=by simpa using cI
     obtain ⟨x,ab,bL⟩:=b8 (f:=a8) cI;unfold a8 at bL;refine dG ?_;refine aa.nh ah I C C (.inl C) C C C C C C .here C (vc _ _ _) (fun I=>?_);refine c2 ?_;exact bn.mk (k+1,_) I ⟨cI,by rw [il ab,← ah0];exact oX.put x⟩ cj (aG.dB _) Ih
    ·have dV:k=eu.parents.length:=by simp at dV;omega
     subst dV;rw [ae5] at oX;refine c2 ?_;exact bn.mk (i,up++eu.parents,out++eu.bp,none,BH) I ⟨by omega,aq,oX,xu,by show (out++eu.bp).length+4*i≤4*(c+1);rw [f6];omega⟩ El (.cons (.there .here) (.cons .here (aG.dB _))) (by show i<i+1;omega)
   ·have pC:1≤eu.bp.length:=by
     rcases bG:eu.bp with _|⟨z,aW⟩
     ·exact absurd bG Ij
     ·simp
    refine aa.HL ah I C C C C C C C di C C C C C C (BF _) (by rw [d9];exact pC) (by show _*8≤_;rw [d9];omega) pV (fun aY cg cs' U ad al I=>?_)
    obtain ⟨eg,rfl⟩:∃ eg,cs'=(out++eu.bp).map a8++eg:=⟨cs'.drop (eu.bp.map a8).length,by
     have:=ai9 (eu.bp.map a8).length cs'
     rw [al] at this
     rw [bq];exact this.symm⟩
    have xu:sH (some (aY,cg,eg)) (out++eu.bp):=by show (out++eu.bp).length+eg.length=cg;rw [f6,d9] at U;exact U
    refine aa.nV 29 (lk (some (aY,cg,eg)) (out++eu.bp)) C (aQ.of_eq (by show ee aY _ cg=ee aY _ cg;rw [bq,d9];rfl)) ?_;refine cC I ?_;intro I;refine aa.idx ah i C C C C C C C C C C dm BG C ?_;refine dG ?_;refine ae.b5 [2,5,6,7,36,37] C I (σ:=Nat×ku) (fun q=>[(38,.int .i64 (q.1:Int))]) (fun q=>(.own mb,.map (qw q.2))::(.own b,.box 27 (cZ p))::jU (some (aY,cg,eg)) (out++eu.bp)) (fun q=>q.1≤eu.parents.length∧rO q.2 (up++eu.parents.take q.1)) (fun q=>eu.parents.length-q.1) (0,fp) ⟨g7 _,by rw [al4,d6];exact qD⟩ (cl C) (.cons (.there (.there .here)) (.cons (.there .here) (.cons .here .nil))) ?_;rintro ⟨k,BH⟩ ⟨iF,oX⟩ I;simp only [cZ] at iF oX I ⊢;refine fI ?_;refine ae.cond C (fun cI=>?_) (fun dV=>?_)
    ·have cI:k<eu.parents.length:=by simpa using cI
     obtain ⟨x,ab,bL⟩:=b8 (f:=a8) cI;unfold a8 at bL;refine dG ?_;refine aa.nh ah I C C (.inl C) C C C C C C .here C (vc _ _ _) (fun I=>?_);refine c2 ?_;exact bn.mk (k+1,_) I ⟨cI,by rw [il ab,← ah0];exact oX.put x⟩ cj (aG.dB _) Ih
    ·have dV:k=eu.parents.length:=by simp at dV;omega
     subst dV;rw [ae5] at oX;refine c2 ?_;exact bn.mk (i,up++eu.parents,out++eu.bp,(some (aY,cg,eg)),BH) I ⟨by omega,aq,oX,xu,by show (out++eu.bp).length+4*i≤4*(c+1);rw [f6];omega⟩ El (.cons (.there .here) (.cons .here (aG.dB _))) (by show i<i+1;omega)
  ·have kE:out.length+eg.length=cap:=cR
   refine aa.HM (n:=out.length) (cap:=cap) (cs:=out.map a8++eg) ah I C C C C C C C di C C C C (.there (.there .here)) (by rw [f6,d9];exact kE) af (by rw [aq3 ba];exact BF _) C C (BF _) (by show _*8≤_;rw [d9];omega) pV (fun aY cg cs' U ad al I=>?_);rw [aq3 ba] at al
   obtain ⟨nz,rfl⟩:∃ eg,cs'=(out++eu.bp).map a8++eg:=⟨cs'.drop (out.length+(eu.bp.map a8).length),by
    have:=ai9 (out.length+(eu.bp.map a8).length) cs'
    rw [al] at this
    rw [ad'];exact this.symm⟩
   have xu:sH (some (aY,cg,nz)) (out++eu.bp):=by show (out++eu.bp).length+nz.length=cg;rw [f6,d9] at U;exact U
   refine aa.nV 29 (lk (some (aY,cg,nz)) (out++eu.bp)) C (aQ.of_eq (by show ee aY _ cg=ee aY _ cg;rw [d9,f6])) ?_;refine cC I ?_;intro I;refine aa.idx ah i C C C C C C C C C C dm BG C ?_;refine dG ?_;refine ae.b5 [2,5,6,7,36,37] C I (σ:=Nat×ku) (fun q=>[(38,.int .i64 (q.1:Int))]) (fun q=>(.own mb,.map (qw q.2))::(.own b,.box 27 (cZ p))::jU (some (aY,cg,nz)) (out++eu.bp)) (fun q=>q.1≤eu.parents.length∧rO q.2 (up++eu.parents.take q.1)) (fun q=>eu.parents.length-q.1) (0,fp) ⟨g7 _,by rw [al4,d6];exact qD⟩ (cl C) (.cons (.there (.there .here)) (.cons (.there .here) (.cons .here .nil))) ?_;rintro ⟨k,BH⟩ ⟨iF,oX⟩ I;simp only [cZ] at iF oX I ⊢;refine fI ?_;refine ae.cond C (fun cI=>?_) (fun dV=>?_)
   ·have cI:k<eu.parents.length:=by simpa using cI
    obtain ⟨x,ab,bL⟩:=b8 (f:=a8) cI;unfold a8 at bL;refine dG ?_;refine aa.nh ah I C C (.inl C) C C C C C C .here C (vc _ _ _) (fun I=>?_);refine c2 ?_;exact bn.mk (k+1,_) I ⟨cI,by rw [il ab,← ah0];exact oX.put x⟩ cj (aG.dB _) Ih
   ·have dV:k=eu.parents.length:=by simp at dV;omega
    subst dV;rw [ae5] at oX;refine c2 ?_;exact bn.mk (i,up++eu.parents,out++eu.bp,(some (aY,cg,nz)),BH) I ⟨by omega,aq,oX,xu,by show (out++eu.bp).length+4*i≤4*(c+1);rw [f6];omega⟩ El (.cons (.there .here) (.cons .here (aG.dB _))) (by show i<i+1;omega)
def Er (b:Bool):eC:=if b then .ret (.cw []) else .panic tT
theorem gP {x:ag} {b:Bool} (h:eC.ret x=Er b):b=true∧x = .cw []:=by
 cases b with
 | true=>cases h;exact ⟨rfl,rfl⟩
 | false=>cases h
theorem gQ {x:ag} {b:Bool} (h:eC.panic x=Er b):b=false∧x=tT:=by
 cases b with
 | true=>cases h
 | false=>cases h;exact ⟨rfl,rfl⟩
theorem hc (b:Bool):bA d0 223 [.bool b] [] (fun o K=>K=[]∧o=Er b):=by
 cases b with
 | true=>exact fun s I=>hp.mono (Wl () s) (fun o aj ⟨U,ad⟩=>⟨[],ad,trivial,rfl,U⟩)
 | false=>exact bA.mono (Wm ()) (fun o K ⟨U,ad⟩=>⟨ad,U⟩)
theorem Ik {cs:List fR} (h:∀ c∈cs,c.bp.length≤4):∀ (k:Nat) (up out:List Int),(oO cs k up out).length≤out.length+4*k
  | 0,_,_=>g8 _
  | k+1,up,out=>by
    rw [oO];split
    · have U:=Ik h k (up++(cs.getD k default).parents) (out++(cs.getD k default).bp)
      have ad:(cs.getD k default).bp.length≤4:=by
        rw [d7];cases aB:cs[k]? with
        | none=>exact g7 _
        | some c=>exact h c (d5 aB)
      rw [f6] at U;omega
    · have:=Ik h k up out
      omega
theorem Xt (p:bT) (aF:ga p):bA d0 222 [cW p] [] (fun o K=>K=[]∧o=Er (pN p)):=by
 have an:=bD;have av:=Ng p aF;have iK:(hk p).length=p.cm.length:=by unfold hk;simp
 have Es:=V2 (hk p) (by rw [iK];exact aF.cls);have cG:pN p=(decide (p.cm.length≤10)&&((lJ 0 p.cm==some p.bp)&&(mL (hk p)&&ry p 0 p.cm))):=rfl;refine bA.bh ah Tryz.func222 C C fun s I=>?_
 unfold cW cZ at *;unfold df at *;refine dt ?_;refine aa.bX C C C C C (hc _) I .nil ?_ ?_;rotate_left
 ·rintro _ _ ⟨rfl,h⟩ I
  obtain ⟨az,rfl⟩:=gQ h;rw [d8] at I ⊢;exact Fin.fi I aJ .nil ⟨rfl,(by rw [cG,show decide (p.cm.length≤10)=false by simp at az ⊢;omega];rfl)⟩
 rintro _ _ ⟨rfl,h⟩ I;obtain ⟨U,rfl⟩:=gP h;rw [d8] at I ⊢;have U:p.cm.length≤10:=by simp at U;omega
 rw [show decide (p.cm.length≤10)=true by simpa using U,f5] at cG;refine bl ?_;refine ae.b5 [1,22,23] C I (σ:=Nat×Nat) (fun q=>[(24,.int .i64 (q.1:Int)),(2,.int .i64 (q.2:Int))]) (fun _=>[]) (fun q=>q.1≤p.cm.length∧lJ 0 p.cm=lJ (q.2:Int) (p.cm.drop q.1)∧q.2≤4*q.1) (fun q=>p.cm.length-q.1) (0,0) ⟨g7 _,rfl,g8 _⟩ (cl C) aX ?_;rintro ⟨j,n⟩ ⟨aL,aq,Il⟩ I;simp only at aL aq Il I ⊢;refine b7 ?_;refine ae.cond C (fun au=>?_) (fun aV=>?_)
 ·have au:j<p.cm.length:=by simpa using au
  obtain ⟨c,ay,c8⟩:=b8 (f:=jo) au;rw [drop_cons ay,lJ] at aq;unfold jo nt bd at c8;refine et ?_;refine aa.bX C C C C C (hc _) I .nil ?_ ?_;rotate_left
  ·rintro _ _ ⟨rfl,h⟩ I
   obtain ⟨az,rfl⟩:=gQ h;rw [d8] at I ⊢;exact Fin.fi I aJ .nil ⟨rfl,(by rw [f0 (by simp at az;omega)] at aq;rw [cG,aq];rfl)⟩
  rintro _ _ ⟨rfl,h⟩ I;obtain ⟨ad,rfl⟩:=gP h;rw [d8] at I ⊢;have ad:c.bp.length≤4:=by simp at ad;omega
  rw [g6 ad] at aq;refine bl ?_;refine ae.b5 [1,22,23,24,34,35] C I (σ:=Nat×Nat) (fun q=>[(36,.int .i64 (q.1:Int)),(2,.int .i64 (q.2:Int))]) (fun _=>[]) (fun q=>q.1≤c.bp.length∧nY (n:Int) c.bp=nY (q.2:Int) (c.bp.drop q.1)∧q.2≤n+q.1) (fun q=>c.bp.length-q.1) (0,n) ⟨g7 _,rfl,g8 _⟩ (cl C) aX ?_;rintro ⟨k,m⟩ ⟨aE,bk,NX⟩ I;simp only at aE bk NX I ⊢;refine b7 ?_;refine ae.cond C (fun cI=>?_) (fun dV=>?_)
  ·have cI:k<c.bp.length:=by simpa using cI
   obtain ⟨x,ab,bL⟩:=b8 (f:=a8) cI;rw [drop_cons ab,nY] at bk;unfold a8 at bL;refine dG ?_;refine aa.bX C C C C C (hc _) I .nil ?_ ?_;rotate_left
   ·rintro _ _ ⟨rfl,h⟩ I
    obtain ⟨az,rfl⟩:=gQ h;rw [d8] at I ⊢;exact Fin.fi I aJ .nil ⟨rfl,(by rw [f0 sF] at bk;rw [bk] at aq;rw [cG,aq];rfl)⟩
   rintro _ _ ⟨rfl,h⟩ I;obtain ⟨al,rfl⟩:=gP h;rw [d8] at I ⊢;have al:x=(m:Int):=by simpa using al
   rw [g6 al] at bk;refine fj ?_;exact bn.mk (k+1,m+1) I ⟨cI,by rw [bk];push_cast;rfl,by show m+1≤n+(k+1);omega⟩ (by repeat (first|exact trivial|refine ⟨⟨_,rfl,aJ⟩,?_⟩|refine ⟨⟨_,rfl,aQ.of_eq (by (first|rw [h7 af]|(rw [dz af af];push_cast;rfl)))⟩,?_⟩)) aX D'
  ·have dV:k=c.bp.length:=by simp at dV;omega
   subst dV;rw [eD (g8 _),nY] at bk;rw [bk] at aq;refine kL ?_;exact bn.mk (j+1,m) I ⟨au,aq,by show m≤4*(j+1);omega⟩ cj aX yZ
 have aV:j=p.cm.length:=by simp at aV;omega
 subst aV;rw [eD (g8 _),lJ] at aq;rw [aq] at cG;refine c2 ?_;cases Im:((n:Int)==p.bp) with
 | false=>
  have Io:(some (n:Int)==some p.bp)=false:=by rw [← Im];rfl
  rw [Io,f9] at cG;refine ed ?_;refine aa.bX C C C C C (hc _) I .nil ?_ ?_;rotate_left
  ·rintro _ _ ⟨rfl,h⟩ I
   obtain ⟨az,rfl⟩:=gQ h;rw [d8] at I ⊢;exact Fin.fi I aJ .nil ⟨rfl,(by rw [cG];rfl)⟩
  rintro _ _ ⟨rfl,h⟩ I;obtain ⟨al,rfl⟩:=gP h;rw [d8] at I ⊢;cases al
 | true=>
 have Io:(some (n:Int)==some p.bp)=true:=by rw [← Im];rfl
 rw [Io,f5] at cG;have cR:=Hg aq;cases y':mL (hk p) with
 | false=>
  rw [y',f9] at cG;rw [y'] at Es;simp only [af8,ah'] at Es;refine c2 ?_;refine aa.bX C C C C C (hc _) I .nil ?_ ?_;rotate_left
  ·rintro _ _ ⟨rfl,h⟩ I
   obtain ⟨az,rfl⟩:=gQ h;rw [d8] at I ⊢;exact Fin.fi I aJ .nil ⟨rfl,(by rw [cG];rfl)⟩
  rintro _ _ ⟨rfl,h⟩ I;obtain ⟨al,rfl⟩:=gP h;rw [d8] at I ⊢;exact absurd al du
 | true=>
 rw [y',f5] at cG;rw [y'] at Es;simp only [ag7] at Es;have mC:=A3 y'
 have vf:NV p:=⟨U,fun c aB=>⟨by
  obtain ⟨i,aR⟩:=ai0 aB
  exact (mC.par i c.parents (by unfold hk;rw [ae4,aR];rfl)).1,cR c aB⟩⟩
 have za:=fun c aB=>V3 (hk p) y' c aB
 unfold df at za;refine c2 ?_;refine aa.bX C C C C C (hc _) I .nil ?_ ?_;rotate_left
 ·rintro _ _ ⟨rfl,h⟩ I
  obtain ⟨az,rfl⟩:=gQ h;rw [d8] at I ⊢;exact Fin.fi I aJ .nil ⟨rfl,(by exact absurd az du)⟩
 rintro _ _ ⟨rfl,h⟩ I;obtain ⟨al,rfl⟩:=gP h;rw [d8] at I ⊢;clear al;refine bl ?_;refine ae.b5 [1,7,61,62] C I (σ:=Nat) (fun j=>[(63,.int .i64 (j:Int))]) (fun _=>[]) (fun j=>j≤p.cm.length∧pN p=ry p j (p.cm.drop j)) (fun j=>p.cm.length-j) 0 ⟨g7 _,cG⟩ (cl C) aX ?_;rintro j ⟨aL,aq⟩ I;refine b7 ?_;refine ae.cond C (fun au=>?_) (fun aV=>?_);rotate_left
 ·have aV:j=p.cm.length:=by simp at aV;omega
  subst aV;rw [eD (g8 _),ry] at aq;refine kL ?_;exact Fin.bs I C aJ .nil ⟨rfl,by rw [aq];rfl⟩
 have au:j<p.cm.length:=by simpa using au
 obtain ⟨c,ay,c8⟩:=b8 (f:=jo) au;rw [drop_cons ay,ry] at aq;unfold Hf at aq;have xw:=za (j+3) af;have mO:(fK (hk p) (2+(hk p).length)).getD (j+3) []=yR p (j+3):=rfl;rw [mO] at xw;have ix:t7 .i64 ((j:Int)+3)=((j+3:Nat):Int):=by rw [dz af af];omega
 rw [← ix] at xw;have n9:=Xs p vf j au;have n9:aT d0 256 [cW p,.int .i64 (t7 .i64 ((j:Int)+3))] (bd (pM p j)):=by rw [ix];exact n9
 unfold cW cZ bd at n9;unfold jo nt bd at c8;unfold M3 at xw;cases Et:(yR p (j+3)).isEmpty with
 | true=>
  rw [Et,g6 C] at xw;rw [Et] at aq
  repeat (first|(refine wT I ?_;clear I;intro I)|refine aa.eb ah I rfl rfl rfl rfl rfl rfl rfl (fun cH I=>?_)|(refine qo ?_))
  refine aa.bX C C C C C (hc _) I .nil ?_ ?_;rotate_left
  ·rintro _ _ ⟨rfl,h⟩ I
   obtain ⟨az,rfl⟩:=gQ h;rw [d8] at I ⊢;exact Fin.fi I aJ .nil ⟨rfl,(by rw [aq];rfl)⟩
  rintro _ _ ⟨rfl,h⟩ I;obtain ⟨al,rfl⟩:=gP h;rw [d8] at I ⊢;exact absurd al du
 | false=>
 rw [Et,f0 ba] at xw;rw [Et,aj3,f5] at aq;unfold bd at xw
 repeat (first|(refine wT I ?_;clear I;intro I)|refine aa.eb ah I rfl rfl rfl rfl rfl rfl rfl (fun cH I=>?_)|(refine qo ?_))
 refine aa.bX C C C C C (hc _) I .nil ?_ ?_;rotate_left
 ·rintro _ _ ⟨rfl,h⟩ I
  obtain ⟨az,rfl⟩:=gQ h;rw [d8] at I ⊢;exact Fin.fi I aJ .nil ⟨rfl,(by exact absurd az du)⟩
 rintro _ _ ⟨rfl,h⟩ I;obtain ⟨al,rfl⟩:=gP h;rw [d8] at I ⊢;clear al;refine c2 ?_;refine aa.sj I C C C C (fun mb I=>?_);refine cC I ?_;intro I;have ht:(pM p j).length≤40:=by
  have:=Ik cR (j+1) [(j:Int)+3] [];unfold pM pL;rw [as9];simp only [af6] at this;omega
 have im:=fun n=>yT (pM p j) n af
 unfold bd at im;generalize pM p j=w5 at n9 aq ht im I ⊢;have NW:=(aF.each c (d5 ay)).2.2;refine ae.b5 [1,7,12,13,61,62,63,84,85] C I (σ:=Nat×ku) (fun q=>[(86,.int .i64 (q.1:Int))]) (fun q=>[(.own mb,.map (qw q.2))]) (fun q=>q.1≤c.inits.length∧rO q.2 ((c.inits.take q.1).map iZ.slot)∧rv w5 [] c.inits=rv w5 ((c.inits.take q.1).map iZ.slot) (c.inits.drop q.1)) (fun q=>c.inits.length-q.1) (0,[]) ⟨g7 _,fun n=>rfl,rfl⟩ (cl C) aX ?_;rintro ⟨k,fp⟩ ⟨aE,qD,bk⟩ I;simp only at aE qD bk I ⊢;refine b7 ?_;refine ae.cond C (fun cI=>?_) (fun dV=>?_);rotate_left
 ·have dV:k=c.inits.length:=by simp at dV;omega
  subst dV;rw [eD (g8 _),rv] at bk;rw [bk,f5] at aq;refine kL ?_;exact bn.mk (j+1) I ⟨au,aq⟩ cj aX yZ
 have cI:k<c.inits.length:=by simpa using cI
 obtain ⟨x,ab,bL⟩:=b8 (f:=w9) cI;rw [drop_cons ab,rv] at bk;unfold w9 at bL;have NY:=im x.slot;have ll:=qD.look x.slot;have nw:=Nd x.n;cases mi:w5.contains x.slot with
 | false=>
  rw [mi] at NY;rw [mi,f9] at bk;rw [bk,f9] at aq;refine et ?_;refine aa.bX C C C C C (hc _) I .nil ?_ ?_;rotate_left
  ·rintro _ _ ⟨rfl,h⟩ I
   obtain ⟨az,rfl⟩:=gQ h;rw [d8] at I ⊢;exact Fin.fi I aJ .nil ⟨rfl,(by rw [aq];rfl)⟩
  rintro _ _ ⟨rfl,h⟩ I;obtain ⟨al,rfl⟩:=gP h;rw [d8] at I ⊢;exact absurd al du
 | true=>
 rw [mi] at NY;rw [mi,f5] at bk;cases sK:((c.inits.take k).map iZ.slot).contains x.slot with
 | true=>
  rw [sK] at ll;rw [sK,ak2,f9] at bk;rw [bk,f9] at aq;refine et ?_;refine aa.jD ah I C C C C C C C C C C aW C ll C ?_;refine ed ?_;refine aa.bX C C C C C (hc _) I .nil ?_ ?_;rotate_left
  ·rintro _ _ ⟨rfl,h⟩ I
   obtain ⟨az,rfl⟩:=gQ h;rw [d8] at I ⊢;exact Fin.fi I aJ .nil ⟨rfl,(by rw [aq];rfl)⟩
  rintro _ _ ⟨rfl,h⟩ I;obtain ⟨al,rfl⟩:=gP h;rw [d8] at I ⊢;exact absurd al du
 | false=>
 rw [sK] at ll;rw [sK,aj3,f5] at bk;simp only [af8,ah'] at ll;refine et ?_;refine aa.jD ah I C C C C C C C C C C aW C ll C ?_;refine c2 ?_;refine aa.bX C C C C C (hc _) I .nil ?_ ?_;rotate_left
 ·rintro _ _ ⟨rfl,h⟩ I
  obtain ⟨az,rfl⟩:=gQ h;rw [d8] at I ⊢;exact Fin.fi I aJ .nil ⟨rfl,(by rw [az,f9] at bk;rw [bk,f9] at aq;rw [aq];rfl)⟩
 rintro _ _ ⟨rfl,h⟩ I;obtain ⟨al,rfl⟩:=gP h;rw [d8] at I ⊢;rw [al,f5] at bk;refine fI ?_;refine aa.nh ah I C C (.inl C) C C C C C C aW C (vc _ _ _) (fun I=>?_);refine fj ?_;have hr:(c.inits.take (k+1)).map iZ.slot=(c.inits.take k).map iZ.slot++[x.slot]:=by rw [il ab,ad'];rfl
 exact bn.mk (k+1,_) I ⟨cI,by show rO _ ((c.inits.take (k+1)).map iZ.slot);rw [hr];exact qD.put x.slot,by show _=rv w5 ((c.inits.take (k+1)).map iZ.slot) _;rw [hr];exact bk⟩ cj aX (by show c.inits.length-(k+1)<c.inits.length-k;omega)
def xx (n:Int):ag := .iface 277 (.int .i64 n)
def xy (op:Int):ag:=
 if op=5 then .iface 279 (.agg [])
 else if op=1∨op=2∨op=3∨op=6∨op=18 then xx 0
 else if op=4∨op=8∨op=17 then xx 1
 else if op=7∨op=9∨op=11∨op=12∨op=13∨op=14∨op=15∨op=16 then xx 2
 else if op=10 then xx 3
 else .ou
theorem Xu (op:Int):aT d0 228 [.int .i64 op] (xy op):=by
 have an:=bD;refine aT.bh ah Tryz.func228 C C fun s I=>?_
 by_cases aD:1≤op∧op≤18
 ·have h:op=1∨op=2∨op=3∨op=4∨op=5∨op=6∨op=7∨op=8∨op=9∨op=10∨op=11∨op=12∨op=13∨op=14∨op=15∨op=16∨op=17∨op=18:=by omega
  clear aD;rcases h with rfl|rfl|rfl|rfl|rfl|rfl|rfl|rfl|rfl|rfl|rfl|rfl|rfl|rfl|rfl|rfl|rfl|rfl
  all_goals
   refine bl ?_;exact bB I
 ·have aE:xy op = .ou:=by
   unfold xy;rw [f0 af,f0 af,f0 af,f0 af,f0 af]
  rw [aE]
  repeat (first|(refine DG ?_)|refine ae.cond C (fun h=>absurd h cV) (fun _=>?_))
  exact bB I
theorem NZ (n:Int) (p:bT) (x:i'):aT d0 335 [.int .i64 n,cW p,jq x] (.int .i64 n):=by
 have an:=bD;refine aT.bh ah Tryz.func335 C C fun s I=>?_
 unfold cW cZ jq la;refine gX ?_;exact bB I
theorem N0 (p:bT) (x:i') (k:Nat) (g:Int) (ab:x.n=(k:Int)) (aE:p.ef[k]? = some g):aT d0 336 [.agg [],cW p,jq x] (.int .i64 g):=by
 have an:=bD;refine aT.bh ah Tryz.func336 C C fun s I=>?_
 have eH:(p.ef.map a8)[k]? = some (.int .i64 g):=by rw [ae4,aE];rfl
 unfold cW cZ jq la bd;rw [ab];refine bl ?_;exact bB I
def cN (b:Nat) (cs:List ag):a':=[(.own b,.box 3 cs)]
def Xv (b:Nat) (eg:List ag) (r:Option (List Int)) (o:eC) (K:a'):Prop:=
 match r with
 | some out=>o = .ret (.bool true)∧K=cN b (out.map a8++eg)
 | none=>o = .ret (.bool false)∧∃ cs,K=cN b cs
theorem Xw {out:List Int} {eg:List ag} {n:Nat} (h:n<out.length) (v:Int):eM (n*1) [.int .i64 v] (out.map a8++eg)=(out.set n v).map a8++eg:=by
 rw [ag',mQ,az2 _ _ (by rw [d9];exact h),al'];rfl
theorem Ip {out:List Int} {eg:List ag} {n:Nat} (h:n<out.length):(out.map a8++eg)[n*1]? = some (.int .i64 (out.getD n 0)):=by
 rw [ag',ag0 (by rw [d9];exact h),ae4,d7,f7 h];rfl
theorem Iq {p:bT} {n:Int} {out:List Int} (h:pO p n out=true):0≤n∧n<(p.nodes.length:Int)∧out.getD n.toNat 0<0:=by
 unfold pO at h;simp only [f8,i8] at h;omega
theorem Ir {p:bT} {next:Bool} {n size:Int} {out:List Int} (h:pO p n out=false):∀ f,visitM p next f n size out=none
 | 0=>rfl
 | f+1=>by rw [visitM,h];rfl
theorem N1 (p:bT) (aF:ga p) (nO:p.nodes.length≤120) (next:Bool) (b:Nat) (eg:List ag) (cap:Nat):∀ (f:Nat),f≤12→∀ (n size:Int),0≤size→size+f≤15→∀ (out:List Int),out.length=p.nodes.length →
  bA d0 138 [cW p,.int .i64 n,.int .i64 size,.int .i64 ((13-f:Nat):Int),.bool next,ee b p.nodes.length cap] (cN b (out.map a8++eg)) (Xv b eg (visitM p next f n size out)):=by
 have an:=bD;intro f
 induction f with
 | zero=>
  intro _ n size jR jk out fZ;refine bA.bh ah Tryz.func138 C C fun s I=>?_
  rw [visitM];unfold cW cZ cN;unfold cN at I;refine dt ?_;by_cases bq:n<0
  ·refine aa.dY 18 C (by simpa using bq) ?_
   refine ed ?_;exact Fin.bs (K:=cN b _) I C aJ (by simp only [cN];exact aX) ⟨rfl,_,rfl⟩
  refine aa.dh 18 C (by simpa using bq) ?_;refine dU ?_;by_cases U:n<(p.nodes.length:Int);rotate_left
  ·refine aa.dY 25 C cV ?_
   refine ed ?_;exact Fin.bs (K:=cN b _) I C aJ (by simp only [cN];exact aX) ⟨rfl,_,rfl⟩
  refine aa.dh 25 C cV ?_;refine dU ?_;refine aa.ej ah n.toNat C C C C C C C C C af af ?_;refine aa.jd ah I C C C C C C aW C (Ip af) ?_;refine dU ?_;by_cases ad:out.getD n.toNat 0≥0
  ·refine aa.dY 32 C s8 ?_
   refine ed ?_;exact Fin.bs (K:=cN b _) I C aJ (by simp only [cN];exact aX) ⟨rfl,_,rfl⟩
  refine aa.dh 32 C s8 ?_;refine ed ?_;exact Fin.bs (K:=cN b _) I C aJ (by simp only [cN];exact aX) ⟨rfl,_,rfl⟩
 | succ f a1=>
 intro a7 n size jR jk out fZ;refine bA.bh ah Tryz.func138 C C fun s I=>?_
 unfold cW cZ cN;unfold cN at I;refine dt ?_;by_cases bq:n<0
 ·refine aa.dY 18 C (by simpa using bq) ?_
  rw [Ir (by rw [ah4];intro h;have:=Iq h;omega)];refine ed ?_;exact Fin.bs (K:=cN b _) I C aJ (by simp only [cN];exact aX) ⟨rfl,_,rfl⟩
 refine aa.dh 18 C (by simpa using bq) ?_;refine dU ?_;by_cases U:n<(p.nodes.length:Int);rotate_left
 ·refine aa.dY 25 C cV ?_
  rw [Ir (by rw [ah4];intro h;have:=Iq h;omega)];refine ed ?_;exact Fin.bs (K:=cN b _) I C aJ (by simp only [cN];exact aX) ⟨rfl,_,rfl⟩
 refine aa.dh 25 C cV ?_;refine dU ?_;refine aa.ej ah n.toNat C C C C C C C C C af af ?_;refine aa.jd ah I C C C C C C aW C (Ip af) ?_;refine dU ?_;by_cases ad:out.getD n.toNat 0≥0
 ·refine aa.dY 32 C s8 ?_
  rw [Ir (by rw [ah4];intro h;have:=Iq h;omega)];refine ed ?_;exact Fin.bs (K:=cN b _) I C aJ (by simp only [cN];exact aX) ⟨rfl,_,rfl⟩
 refine aa.dh 32 C s8 ?_;have dn:pO p n out=true:=by
  unfold pO;simp only [f8,i8];omega
 rw [visitM,g6 dn];obtain ⟨q,rfl⟩:∃ q:Nat,n=q:=⟨n.toNat,by omega⟩;rw [ae1];obtain ⟨x,ab,bL⟩:=b8 (f:=jq) (l:=p.nodes) (j:=q) af;have Is:p.nodes.getD q default=x:=by rw [d7,ab];rfl
 rw [Is,WG];have sL:=aF.kids x (d5 ab);refine gr ?_;refine ae.cond C (fun h=>by simp at h;omega) (fun _=>?_);refine dG ?_;refine aa.ej ah q C C C C C C C C C C af ?_;refine aa.hQ ah I ((out.set q size).map a8++eg) C C C C C C C C C aW (by rw [f6,d9];show q*1+1≤_;omega) (Xw af size) (fun I=>?_);have kR:(out.set q size).length=p.nodes.length:=by rw [af1];exact fZ
 generalize out.set q size=zb at I kR ⊢;have al:=WK p x;have bf:=WI p aF x size;unfold cW cZ jq la bd at al bf;unfold jq la bd at bL;refine et ?_;by_cases g1:(x.kids.length:Int)=tW p x;rotate_left
 ·refine aK.split 52 C (fun _=>?_) (fun h=>absurd h (by simpa using g1))
  rw [ab' g1,f9,f0 ba];refine hi ?_;exact Fin.bs (K:=cN b _) I C aJ (by simp only [cN];exact aX) ⟨rfl,_,rfl⟩
 refine aK.split 52 C (fun h=>absurd g1 e2) (fun _=>?_);rw [i7 g1,f5];cases g2:np p x size with
 | false=>
  rw [g2] at bf;rw [f9,f0 ba];refine b' ?_;exact Fin.bs (K:=cN b _) I C aJ (by simp only [cN];exact aX) ⟨rfl,_,rfl⟩
 | true=>
 rw [g2] at bf;rw [f5];refine c2 ?_;cases next with
 | true=>
  rw [ap2];by_cases xz:x.op=18
  ·refine aK.split 63 C (fun _=>?_) (fun h=>absurd xz e2)
   rw [g6 C];refine b' ?_;refine ae.b5 [1,2,3,4,5,6,13] C I (σ:=Nat×List Int) (fun q=>[(14,.int .i64 (q.1:Int))]) (fun q=>cN b (q.2.map a8++eg)) (fun q=>q.1≤x.kids.length∧q.2.length=p.nodes.length∧lK (visitM p true f) (decide (x.op=9)) size 0 x.kids zb=lK (visitM p true f) (decide (x.op=9)) size q.1 (x.kids.drop q.1) q.2) (fun q=>x.kids.length-q.1) (0,zb) ⟨g7 _,kR,rfl⟩ (cl C) (by simp only [cN];exact aX) ?_;rintro ⟨j,bR⟩ ⟨aL,sg,aq⟩ I
   try simp only at aL sg aq I ⊢
   unfold cN at I ⊢;refine b7 ?_;refine ae.cond C (fun au=>?_) (fun aV=>?_);rotate_left
   ·have aV:j=x.kids.length:=by simp at aV;omega
    rw [eD af,lK] at aq;rw [aq];refine ez ?_;exact Fin.bs (K:=cN b _) I C aJ (by simp only [cN];exact aX) ⟨rfl,rfl⟩
   have au:j<x.kids.length:=by simpa using au
   obtain ⟨k,aE,eH⟩:=b8 (f:=a8) au;rw [drop_cons aE,lK] at aq;unfold a8 at eH;have c3:=fun s U ad=>a1 af k s U ad bR sg
   have ax:((13-f:Nat):Int)=t7 .i64 (((13-(f+1):Nat):Int)+1):=by rw [dz af af];omega
   rw [ax] at c3;unfold cW cZ cN at c3;refine bl ?_;by_cases kv:x.op=9
   ·refine aa.dY 79 C (by simpa using kv) ?_
    refine gr ?_;refine ae.cond C (fun U=>?_) (fun U=>?_)
    ·have U:j=1:=by simp at U;omega
     rw [show (decide (x.op=9)&&j==1)=true by simp [kv,U],g6 C] at aq;have c3:=c3 (size+1) af af;have BI:size+1=t7 .i64 (size+1):=by rw [dz af af]
     rw [BI] at c3 aq;refine oG ?_;cases aw:visitM p true f k (t7 .i64 (size+1)) bR with
     | none=>
      rw [aw] at c3;rw [aw,ai6] at aq;rw [aq];skip;refine aK.kS rfl rfl rfl rfl rfl rfl c3 I (aG.all _) ?_ (fun _ _ ⟨h,_⟩ _=>by cases h);rintro _ _ ⟨⟨⟩,cs,rfl⟩ I;rw [d6] at I ⊢;unfold cN at I ⊢;refine hi ?_;exact Fin.bs (K:=cN b _) I C aJ (by simp only [cN];exact aX) ⟨rfl,_,rfl⟩
     | some fo=>
      have qm:=rH af aw;rw [aw] at c3;rw [aw,aj5] at aq;skip;refine aK.kS rfl rfl rfl rfl rfl rfl c3 I (aG.all _) ?_ (fun _ _ ⟨h,_⟩ _=>by cases h);rintro _ _ ⟨⟨⟩,rfl⟩ I;rw [d6] at I ⊢;unfold cN at I ⊢;refine j8 ?_;exact bn.mk (j+1,fo) I ⟨au,by show fo.length=_;omega,aq⟩ cj (by simp only [cN];exact aX) qH
    ·have U:j≠1:=by simp at U;omega
     rw [show (decide (x.op=9)&&j==1)=false by simp [U],f0 ba] at aq;have c3:=c3 size af af;refine oG ?_;cases aw:visitM p true f k size bR with
     | none=>
      rw [aw] at c3;rw [aw,ai6] at aq;rw [aq];skip;refine aK.kS rfl rfl rfl rfl rfl rfl c3 I (aG.all _) ?_ (fun _ _ ⟨h,_⟩ _=>by cases h);rintro _ _ ⟨⟨⟩,cs,rfl⟩ I;rw [d6] at I ⊢;unfold cN at I ⊢;refine hi ?_;exact Fin.bs (K:=cN b _) I C aJ (by simp only [cN];exact aX) ⟨rfl,_,rfl⟩
     | some fo=>
      have qm:=rH af aw;rw [aw] at c3;rw [aw,aj5] at aq;skip;refine aK.kS rfl rfl rfl rfl rfl rfl c3 I (aG.all _) ?_ (fun _ _ ⟨h,_⟩ _=>by cases h);rintro _ _ ⟨⟨⟩,rfl⟩ I;rw [d6] at I ⊢;unfold cN at I ⊢;refine j8 ?_;exact bn.mk (j+1,fo) I ⟨au,by show fo.length=_;omega,aq⟩ cj (by simp only [cN];exact aX) qH
   ·refine aa.dh 79 C (by simpa using kv) ?_
    rw [show (decide (x.op=9)&&j==1)=false by simp [kv],f0 ba] at aq;have c3:=c3 size af af;refine oG ?_;cases aw:visitM p true f k size bR with
    | none=>
     rw [aw] at c3;rw [aw,ai6] at aq;rw [aq];skip;refine aK.kS rfl rfl rfl rfl rfl rfl c3 I (aG.all _) ?_ (fun _ _ ⟨h,_⟩ _=>by cases h);rintro _ _ ⟨⟨⟩,cs,rfl⟩ I;rw [d6] at I ⊢;unfold cN at I ⊢;refine hi ?_;exact Fin.bs (K:=cN b _) I C aJ (by simp only [cN];exact aX) ⟨rfl,_,rfl⟩
    | some fo=>
     have qm:=rH af aw;rw [aw] at c3;rw [aw,aj5] at aq;skip;refine aK.kS rfl rfl rfl rfl rfl rfl c3 I (aG.all _) ?_ (fun _ _ ⟨h,_⟩ _=>by cases h);rintro _ _ ⟨⟨⟩,rfl⟩ I;rw [d6] at I ⊢;unfold cN at I ⊢;refine j8 ?_;exact bn.mk (j+1,fo) I ⟨au,by show fo.length=_;omega,aq⟩ cj (by simp only [cN];exact aX) qH
  ·refine aK.split 63 C (fun h=>absurd e2 xz) (fun _=>?_)
   rw [g6 C];refine b' ?_;refine ae.b5 [1,2,3,4,5,6,13] C I (σ:=Nat×List Int) (fun q=>[(14,.int .i64 (q.1:Int))]) (fun q=>cN b (q.2.map a8++eg)) (fun q=>q.1≤x.kids.length∧q.2.length=p.nodes.length∧lK (visitM p true f) (decide (x.op=9)) size 0 x.kids zb=lK (visitM p true f) (decide (x.op=9)) size q.1 (x.kids.drop q.1) q.2) (fun q=>x.kids.length-q.1) (0,zb) ⟨g7 _,kR,rfl⟩ (cl C) (by simp only [cN];exact aX) ?_;rintro ⟨j,bR⟩ ⟨aL,sg,aq⟩ I
   try simp only at aL sg aq I ⊢
   unfold cN at I ⊢;refine b7 ?_;refine ae.cond C (fun au=>?_) (fun aV=>?_);rotate_left
   ·have aV:j=x.kids.length:=by simp at aV;omega
    rw [eD af,lK] at aq;rw [aq];refine ez ?_;exact Fin.bs (K:=cN b _) I C aJ (by simp only [cN];exact aX) ⟨rfl,rfl⟩
   have au:j<x.kids.length:=by simpa using au
   obtain ⟨k,aE,eH⟩:=b8 (f:=a8) au;rw [drop_cons aE,lK] at aq;unfold a8 at eH;have c3:=fun s U ad=>a1 af k s U ad bR sg
   have ax:((13-f:Nat):Int)=t7 .i64 (((13-(f+1):Nat):Int)+1):=by rw [dz af af];omega
   rw [ax] at c3;unfold cW cZ cN at c3;refine bl ?_;by_cases kv:x.op=9
   ·refine aa.dY 79 C (by simpa using kv) ?_
    refine gr ?_;refine ae.cond C (fun U=>?_) (fun U=>?_)
    ·have U:j=1:=by simp at U;omega
     rw [show (decide (x.op=9)&&j==1)=true by simp [kv,U],g6 C] at aq;have c3:=c3 (size+1) af af;have BI:size+1=t7 .i64 (size+1):=by rw [dz af af]
     rw [BI] at c3 aq;refine oG ?_;cases aw:visitM p true f k (t7 .i64 (size+1)) bR with
     | none=>
      rw [aw] at c3;rw [aw,ai6] at aq;rw [aq];skip;refine aK.kS rfl rfl rfl rfl rfl rfl c3 I (aG.all _) ?_ (fun _ _ ⟨h,_⟩ _=>by cases h);rintro _ _ ⟨⟨⟩,cs,rfl⟩ I;rw [d6] at I ⊢;unfold cN at I ⊢;refine hi ?_;exact Fin.bs (K:=cN b _) I C aJ (by simp only [cN];exact aX) ⟨rfl,_,rfl⟩
     | some fo=>
      have qm:=rH af aw;rw [aw] at c3;rw [aw,aj5] at aq;skip;refine aK.kS rfl rfl rfl rfl rfl rfl c3 I (aG.all _) ?_ (fun _ _ ⟨h,_⟩ _=>by cases h);rintro _ _ ⟨⟨⟩,rfl⟩ I;rw [d6] at I ⊢;unfold cN at I ⊢;refine j8 ?_;exact bn.mk (j+1,fo) I ⟨au,by show fo.length=_;omega,aq⟩ cj (by simp only [cN];exact aX) qH
    ·have U:j≠1:=by simp at U;omega
     rw [show (decide (x.op=9)&&j==1)=false by simp [U],f0 ba] at aq;have c3:=c3 size af af;refine oG ?_;cases aw:visitM p true f k size bR with
     | none=>
      rw [aw] at c3;rw [aw,ai6] at aq;rw [aq];skip;refine aK.kS rfl rfl rfl rfl rfl rfl c3 I (aG.all _) ?_ (fun _ _ ⟨h,_⟩ _=>by cases h);rintro _ _ ⟨⟨⟩,cs,rfl⟩ I;rw [d6] at I ⊢;unfold cN at I ⊢;refine hi ?_;exact Fin.bs (K:=cN b _) I C aJ (by simp only [cN];exact aX) ⟨rfl,_,rfl⟩
     | some fo=>
      have qm:=rH af aw;rw [aw] at c3;rw [aw,aj5] at aq;skip;refine aK.kS rfl rfl rfl rfl rfl rfl c3 I (aG.all _) ?_ (fun _ _ ⟨h,_⟩ _=>by cases h);rintro _ _ ⟨⟨⟩,rfl⟩ I;rw [d6] at I ⊢;unfold cN at I ⊢;refine j8 ?_;exact bn.mk (j+1,fo) I ⟨au,by show fo.length=_;omega,aq⟩ cj (by simp only [cN];exact aX) qH
   ·refine aa.dh 79 C (by simpa using kv) ?_
    rw [show (decide (x.op=9)&&j==1)=false by simp [kv],f0 ba] at aq;have c3:=c3 size af af;refine oG ?_;cases aw:visitM p true f k size bR with
    | none=>
     rw [aw] at c3;rw [aw,ai6] at aq;rw [aq];skip;refine aK.kS rfl rfl rfl rfl rfl rfl c3 I (aG.all _) ?_ (fun _ _ ⟨h,_⟩ _=>by cases h);rintro _ _ ⟨⟨⟩,cs,rfl⟩ I;rw [d6] at I ⊢;unfold cN at I ⊢;refine hi ?_;exact Fin.bs (K:=cN b _) I C aJ (by simp only [cN];exact aX) ⟨rfl,_,rfl⟩
    | some fo=>
     have qm:=rH af aw;rw [aw] at c3;rw [aw,aj5] at aq;skip;refine aK.kS rfl rfl rfl rfl rfl rfl c3 I (aG.all _) ?_ (fun _ _ ⟨h,_⟩ _=>by cases h);rintro _ _ ⟨⟨⟩,rfl⟩ I;rw [d6] at I ⊢;unfold cN at I ⊢;refine j8 ?_;exact bn.mk (j+1,fo) I ⟨au,by show fo.length=_;omega,aq⟩ cj (by simp only [cN];exact aX) qH
 | false=>
  by_cases xz:x.op=18
  ·rw [show (decide (x.op≠18)||false)=false by simp [xz],f0 ba]
   refine aK.split 63 C (fun _=>?_) (fun h=>absurd xz e2);refine hi ?_;exact Fin.bs (K:=cN b _) I C aJ (by simp only [cN];exact aX) ⟨rfl,_,rfl⟩
  ·rw [show (decide (x.op≠18)||false)=true by simp [xz]]
   refine aK.split 63 C (fun h=>absurd e2 xz) (fun _=>?_);rw [g6 C];refine b' ?_;refine ae.b5 [1,2,3,4,5,6,13] C I (σ:=Nat×List Int) (fun q=>[(14,.int .i64 (q.1:Int))]) (fun q=>cN b (q.2.map a8++eg)) (fun q=>q.1≤x.kids.length∧q.2.length=p.nodes.length∧lK (visitM p false f) (decide (x.op=9)) size 0 x.kids zb=lK (visitM p false f) (decide (x.op=9)) size q.1 (x.kids.drop q.1) q.2) (fun q=>x.kids.length-q.1) (0,zb) ⟨g7 _,kR,rfl⟩ (cl C) (by simp only [cN];exact aX) ?_;rintro ⟨j,bR⟩ ⟨aL,sg,aq⟩ I
   try simp only at aL sg aq I ⊢
   unfold cN at I ⊢;refine b7 ?_;refine ae.cond C (fun au=>?_) (fun aV=>?_);rotate_left
   ·have aV:j=x.kids.length:=by simp at aV;omega
    rw [eD af,lK] at aq;rw [aq];refine ez ?_;exact Fin.bs (K:=cN b _) I C aJ (by simp only [cN];exact aX) ⟨rfl,rfl⟩
   have au:j<x.kids.length:=by simpa using au
   obtain ⟨k,aE,eH⟩:=b8 (f:=a8) au;rw [drop_cons aE,lK] at aq;unfold a8 at eH;have c3:=fun s U ad=>a1 af k s U ad bR sg
   have ax:((13-f:Nat):Int)=t7 .i64 (((13-(f+1):Nat):Int)+1):=by rw [dz af af];omega
   rw [ax] at c3;unfold cW cZ cN at c3;refine bl ?_;by_cases kv:x.op=9
   ·refine aa.dY 79 C (by simpa using kv) ?_
    refine gr ?_;refine ae.cond C (fun U=>?_) (fun U=>?_)
    ·have U:j=1:=by simp at U;omega
     rw [show (decide (x.op=9)&&j==1)=true by simp [kv,U],g6 C] at aq;have c3:=c3 (size+1) af af;have BI:size+1=t7 .i64 (size+1):=by rw [dz af af]
     rw [BI] at c3 aq;refine oG ?_;cases aw:visitM p false f k (t7 .i64 (size+1)) bR with
     | none=>
      rw [aw] at c3;rw [aw,ai6] at aq;rw [aq];skip;refine aK.kS rfl rfl rfl rfl rfl rfl c3 I (aG.all _) ?_ (fun _ _ ⟨h,_⟩ _=>by cases h);rintro _ _ ⟨⟨⟩,cs,rfl⟩ I;rw [d6] at I ⊢;unfold cN at I ⊢;refine hi ?_;exact Fin.bs (K:=cN b _) I C aJ (by simp only [cN];exact aX) ⟨rfl,_,rfl⟩
     | some fo=>
      have qm:=rH af aw;rw [aw] at c3;rw [aw,aj5] at aq;skip;refine aK.kS rfl rfl rfl rfl rfl rfl c3 I (aG.all _) ?_ (fun _ _ ⟨h,_⟩ _=>by cases h);rintro _ _ ⟨⟨⟩,rfl⟩ I;rw [d6] at I ⊢;unfold cN at I ⊢;refine j8 ?_;exact bn.mk (j+1,fo) I ⟨au,by show fo.length=_;omega,aq⟩ cj (by simp only [cN];exact aX) qH
    ·have U:j≠1:=by simp at U;omega
     rw [show (decide (x.op=9)&&j==1)=false by simp [U],f0 ba] at aq;have c3:=c3 size af af;refine oG ?_;cases aw:visitM p false f k size bR with
     | none=>
      rw [aw] at c3;rw [aw,ai6] at aq;rw [aq];skip;refine aK.kS rfl rfl rfl rfl rfl rfl c3 I (aG.all _) ?_ (fun _ _ ⟨h,_⟩ _=>by cases h);rintro _ _ ⟨⟨⟩,cs,rfl⟩ I;rw [d6] at I ⊢;unfold cN at I ⊢;refine hi ?_;exact Fin.bs (K:=cN b _) I C aJ (by simp only [cN];exact aX) ⟨rfl,_,rfl⟩
     | some fo=>
      have qm:=rH af aw;rw [aw] at c3;rw [aw,aj5] at aq;skip;refine aK.kS rfl rfl rfl rfl rfl rfl c3 I (aG.all _) ?_ (fun _ _ ⟨h,_⟩ _=>by cases h);rintro _ _ ⟨⟨⟩,rfl⟩ I;rw [d6] at I ⊢;unfold cN at I ⊢;refine j8 ?_;exact bn.mk (j+1,fo) I ⟨au,by show fo.length=_;omega,aq⟩ cj (by simp only [cN];exact aX) qH
   ·refine aa.dh 79 C (by simpa using kv) ?_
    rw [show (decide (x.op=9)&&j==1)=false by simp [kv],f0 ba] at aq;have c3:=c3 size af af;refine oG ?_;cases aw:visitM p false f k size bR with
    | none=>
     rw [aw] at c3;rw [aw,ai6] at aq;rw [aq];skip;refine aK.kS rfl rfl rfl rfl rfl rfl c3 I (aG.all _) ?_ (fun _ _ ⟨h,_⟩ _=>by cases h);rintro _ _ ⟨⟨⟩,cs,rfl⟩ I;rw [d6] at I ⊢;unfold cN at I ⊢;refine hi ?_;exact Fin.bs (K:=cN b _) I C aJ (by simp only [cN];exact aX) ⟨rfl,_,rfl⟩
    | some fo=>
     have qm:=rH af aw;rw [aw] at c3;rw [aw,aj5] at aq;skip;refine aK.kS rfl rfl rfl rfl rfl rfl c3 I (aG.all _) ?_ (fun _ _ ⟨h,_⟩ _=>by cases h);rintro _ _ ⟨⟨⟩,rfl⟩ I;rw [d6] at I ⊢;unfold cN at I ⊢;refine j8 ?_;exact bn.mk (j+1,fo) I ⟨au,by show fo.length=_;omega,aq⟩ cj (by simp only [cN];exact aX) qH
theorem Xx {g:List (List Int)} {i:Nat} {l:List Int} (aC:g[i]? = some l) (h:3<l.length):mL g=false:=by
 rw [ah4];intro av;have:=(A3 av).par i l aC;omega
theorem Xy (p:bT) (aF:ga p):aT d0 136 [cW p] (.bool (pN p)):=by
 have an:=bD;have fa:pN p=(decide (p.cm.length≤10)&&((lJ 0 p.cm==some p.bp)&&(mL (hk p)&&ry p 0 p.cm))):=rfl;have cy:=aF.cls;have iK:(hk p).length=p.cm.length:=d9 _;have en:=Nq p aF;have N2:=UT (hk p) af;have gO:=fun h=>H3 p aF h
 refine aT.bh ah Tryz.func136 C C fun s I=>?_
 unfold cW cZ fz fE df bd at *;refine b7 ?_;refine ae.cond C (fun h=>?_) (fun h=>?_)
 ·rw [show decide (p.cm.length≤10)=false by simp at h ⊢;omega,f9] at fa
  refine gX ?_;exact Fin.cB I C (aQ.of_eq (ae7 ag.bool fa.symm))
 have N3:p.cm.length≤10:=by simp at h;omega
 rw [i7 N3,f5] at fa;refine kq ?_;refine ae.b5 [1] C I (σ:=Nat×Int) (fun q=>[(4,.int .i64 (q.1:Int)),(3,.int .i64 q.2)]) (fun _=>[]) (fun q=>q.1≤p.cm.length∧lJ 0 p.cm=lJ q.2 (p.cm.drop q.1)∧0≤q.2∧q.2≤4*q.1) (fun q=>p.cm.length-q.1) (0,0) ⟨g7 _,rfl,ak9 _,by omega⟩ (cl C) aX ?_;rintro ⟨j,n⟩ ⟨aL,aq,yV,Il⟩ I
 try simp only at aL aq yV Il I ⊢
 refine b7 ?_;refine ae.cond C (fun au=>?_) (fun aV=>?_)
 ·have au:j<p.cm.length:=by simpa using au
  obtain ⟨c,aB,ns⟩:=b8 (f:=jo) au;obtain ⟨b2,bU,e1⟩:=aF.each c (d5 aB);rw [drop_cons aB,lJ] at aq;unfold jo nt bd at ns;refine dG ?_;by_cases bf:c.bp.length≤4;rotate_left
  ·rw [f0 bf] at aq
   rw [aq,show (none==some p.bp)=false from rfl,f9] at fa;refine aa.dY 36 C cV ?_;refine bl ?_;exact Fin.cB I C (aQ.of_eq (ae7 ag.bool fa.symm))
  rw [g6 bf] at aq;refine aa.dh 36 C cV ?_;refine dG ?_;refine ae.cond C (fun al=>?_) (fun al=>?_)
  ·have al:3<c.parents.length:=by simp at al;omega
   rw [Xx (g:=hk p) (i:=j) (l:=c.parents) (by unfold hk;rw [ae4,aB];rfl) al,f9,ak8] at fa;refine kp ?_;exact Fin.cB I C (aQ.of_eq (ae7 ag.bool fa.symm))
  refine kq ?_;refine ae.b5 [1,4,5] C I (σ:=Nat) (fun k=>[(6,.int .i64 (k:Int)),(3,.int .i64 (n+k))]) (fun _=>[]) (fun k=>k≤c.bp.length∧nY n c.bp=nY (n+k) (c.bp.drop k)) (fun k=>c.bp.length-k) 0 ⟨g7 _,by rw [am6];congr 1;omega⟩ (by repeat (first|exact trivial|refine ⟨⟨_,rfl,aJ⟩,?_⟩|refine ⟨⟨_,rfl,aQ.of_eq (by (congr 1;omega))⟩,?_⟩)) aX ?_;rintro k ⟨aE,bk⟩ I
  try simp only at aE bk I ⊢
  refine b7 ?_;refine ae.cond C (fun cI=>?_) (fun dV=>?_)
  ·have cI:k<c.bp.length:=by simpa using cI
   obtain ⟨y,ay,c8⟩:=b8 (f:=a8) cI;rw [drop_cons ay,nY] at bk;unfold a8 at c8;refine dG ?_;refine ae.cond C (fun cJ=>?_) (fun he=>?_)
   ·have cJ:y≠n+k:=by simpa using cJ
    rw [f0 cJ] at bk;rw [aq,bk,ai6,show (none==some p.bp)=false from rfl,f9] at fa;refine kp ?_;exact Fin.cB I C (aQ.of_eq (ae7 ag.bool fa.symm))
   have he:y=n+k:=by simpa using he
   rw [g6 he] at bk;refine gx ?_;exact bn.mk (k+1) I ⟨cI,by rw [bk];congr 1;push_cast;omega⟩ (by repeat (first|exact trivial|refine ⟨⟨_,rfl,aJ⟩,?_⟩|refine ⟨⟨_,rfl,aQ.of_eq (by (first|rw [h7 af]|(rw [dz af af];congr 1;push_cast;omega)))⟩,?_⟩)) aX D'
  ·have dV:k=c.bp.length:=by simp at dV;omega
   rw [eD af,nY] at bk;rw [bk,aj5] at aq;refine kL ?_;exact bn.mk (j+1,n+k) I ⟨au,aq,by show 0≤n+(k:Int);omega,by show n+(k:Int)≤4*((j+1:Nat):Int);omega⟩ cj aX yZ
 have aV:j=p.cm.length:=by simp at aV;omega
 rw [eD af,lJ] at aq;rw [aq] at fa;have fZ:=(Hk (i:=0) aq).1;have gO:=gO af;refine c2 ?_;by_cases ar:n=p.bp;rotate_left
 ·rw [show (some n==some p.bp)=false by simpa using ar,f9] at fa
  refine aa.dY 66 C (by simpa using ar) ?_;refine ed ?_;exact Fin.cB I C (aQ.of_eq (ae7 ag.bool fa.symm))
 refine aa.dh 66 C (by simpa using ar) ?_;rw [show (some n==some p.bp)=true by simpa using ar,f5] at fa;cases k6:mL (hk p) with
 | false=>
  rw [k6,f9] at fa;rw [k6] at N2;refine b' ?_;exact Fin.cB I C (aQ.of_eq (ae7 ag.bool fa.symm))
 | true=>
 rw [k6,f5] at fa;rw [k6] at N2;have mC:=A3 k6;have oc:=L3 N3 aq k6;subst ar;have N4:=fun c aB=>U3 (hk p) mC c aB
 have N5:=fun c bu o U ad=>WE (ca p) oc c bu o U ad
 have Xz:=fun i h s=>UN aq oc (i:=i) h s
 have hIn:=fun n=>Np n
 have rG:(ca p).ps.length=p.cm.length:=iK;have qj:((ca p).owner.length:Int)=p.bp:=by
  have:(ca p).owner=fL 0 p.cm:=rfl;rw [this];omega
 unfold fz fE df bd at N5;unfold df bd at N4;refine et ?_;refine ae.b5 [1,3,7,8] C I (σ:=Nat) (fun j=>[(9,.int .i64 (j:Int))]) (fun _=>[]) (fun j=>j≤p.cm.length∧ry p 0 p.cm=ry p j (p.cm.drop j)) (fun j=>p.cm.length-j) 0 ⟨g7 _,rfl⟩ (cl C) aX ?_;rintro i ⟨aR,cO⟩ I
 try simp only at aR cO I ⊢
 refine b7 ?_;refine ae.cond C (fun au=>?_) (fun aV=>?_);rotate_left
 ·have aV:i=p.cm.length:=by simp at aV;omega
  rw [eD af,ry] at cO;rw [cO] at fa;refine ez ?_;exact Fin.cB I C (aQ.of_eq (ae7 ag.bool fa.symm))
 have au:i<p.cm.length:=by simpa using au
 obtain ⟨c,aB,ns⟩:=b8 (f:=jo) au;obtain ⟨b2,bU,e1⟩:=aF.each c (d5 aB);rw [drop_cons aB,ry,Hf] at cO;have za:=N4 (3+i) af;have ix:(((3+i:Nat):Int))=t7 .i64 ((i:Int)+3):=by rw [dz af af];omega
 have hle:yR p (i+3)=(fK (hk p) (2+(hk p).length)).getD (3+i) []:=by unfold yR;rw [ar0 3 i]
 rw [← hle,ix] at za;unfold jo nt bd at ns;cases he:(yR p (i+3)).isEmpty with
 | true=>
  rw [he] at za;rw [he,ak2,f9,f9] at cO;rw [cO] at fa;refine b' ?_;exact Fin.cB I C (aQ.of_eq (ae7 ag.bool fa.symm))
 | false=>
 rw [he] at za;rw [he,aj3,f5] at cO;refine b' ?_;refine ae.b5 [1,3,7,8,9,10,13] C I (σ:=Nat) (fun k=>[(14,.int .i64 (k:Int))]) (fun _=>[]) (fun k=>k≤c.inits.length∧rv (pM p i) [] c.inits=rv (pM p i) ((c.inits.take k).map iZ.slot) (c.inits.drop k)) (fun k=>c.inits.length-k) 0 ⟨g7 _,rfl⟩ (cl C) aX ?_;rintro k ⟨aE,bk⟩ I
 try simp only at aE bk I ⊢
 refine b7 ?_;refine ae.cond C (fun cI=>?_) (fun dV=>?_);rotate_left
 ·have dV:k=c.inits.length:=by simp at dV;omega
  rw [eD af,rv] at bk;rw [bk,f5] at cO;refine kL ?_;exact bn.mk (i+1) I ⟨au,cO⟩ cj aX (by show p.cm.length-(i+1)<p.cm.length-i;omega)
 have cI:k<c.inits.length:=by simpa using cI
 obtain ⟨x,ab,bL⟩:=b8 (f:=w9) cI;rw [drop_cons ab,rv,Xz i au] at bk;unfold w9 at bL;refine pD ?_;by_cases g1:x.slot<0
 ·refine aK.split 108 C (fun _=>?_) (fun h=>absurd h (by simpa using g1))
  rw [show decide (x.slot≥0)=false by simp;omega,f9,f9] at bk;rw [bk] at cO;rw [f9] at cO;rw [cO] at fa;refine hi ?_;exact Fin.cB I C (aQ.of_eq (ae7 ag.bool fa.symm))
 refine aK.split 108 C (fun h=>absurd e2 g1) (fun _=>?_);rw [show decide (x.slot≥0)=true by simp;omega,f5] at bk;refine c2 ?_;by_cases g2:x.slot<p.bp;rotate_left
 ·refine aK.split 117 C (fun _=>?_) (fun h=>absurd h cV)
  rw [show decide (x.slot<p.bp)=false by simp;omega,f9,f9] at bk;rw [bk] at cO;rw [f9] at cO;rw [cO] at fa;refine hi ?_;exact Fin.cB I C (aQ.of_eq (ae7 ag.bool fa.symm))
 refine aK.split 117 C (fun h=>absurd h cV) (fun _=>?_);rw [i7 g2,f5] at bk;obtain ⟨bu,cR⟩:∃ bu:Nat,x.slot=bu:=⟨x.slot.toNat,by omega⟩;obtain ⟨o,ai⟩:∃ o,(ca p).owner[bu]? = some o:=⟨_,f7 af⟩;have lY:=oc.own o (d5 ai);obtain ⟨It,rfl⟩:∃ q:Nat,o=q:=⟨o.toNat,by omega⟩;have tZ:=N5 (3+i) bu It af ai;rw [show (ca p).owner.getD x.slot.toNat 0=(It:Int) by rw [cR,ae1,d7,ai];rfl,ae1] at bk;rw [ix,← cR] at tZ;cases g3:((eY (ca p).ps).getD (3+i) 0).testBit It with
 | false=>
  rw [g3,f9] at bk;rw [g3] at tZ;refine b' ?_;rw [bk] at cO;rw [f9] at cO;rw [cO] at fa;skip;exact Fin.cB I C (aQ.of_eq (ae7 ag.bool fa.symm))
 | true=>
 rw [g3,f5] at bk;rw [g3] at tZ;have fy:=hIn x.n;cases g4:kN x.n with
 | false=>
  rw [g4,f9,ak8] at bk;rw [g4] at fy;refine b' ?_;rw [bk] at cO;rw [f9] at cO;rw [cO] at fa;skip;exact Fin.cB I C (aQ.of_eq (ae7 ag.bool fa.symm))
 | true=>
 rw [g4,f5] at bk;rw [g4] at fy;refine b' ?_;refine ae.b5 [1,3,7,8,9,10,13,14] C I (σ:=Nat) (fun j=>[(15,.int .i64 (j:Int))]) (fun _=>[]) (fun j=>j≤k∧((c.inits.take j).map iZ.slot).contains x.slot=false) (fun j=>k-j) 0 ⟨g7 _,by simp⟩ (cl C) aX ?_;rintro j ⟨aL,ck⟩ I
 try simp only at aL ck I ⊢
 refine b7 ?_;refine ae.cond C (fun ka=>?_) (fun kQ=>?_);rotate_left
 ·have kQ:j=k:=by simp at kQ;omega
  subst kQ;rw [ck,aj3,f5] at bk;have hr:(c.inits.take (j+1)).map iZ.slot=(c.inits.take j).map iZ.slot++[x.slot]:=by rw [il ab,ad'];rfl
  rw [← hr] at bk;refine kL ?_;exact bn.mk (j+1) I ⟨cI,bk⟩ cj aX (by show c.inits.length-(j+1)<c.inits.length-j;omega)
 have ka:j<k:=by simpa using ka
 obtain ⟨y,ay,c8⟩:=b8 (f:=w9) (l:=c.inits) (j:=j) af;unfold w9 at c8;refine pD ?_;refine ae.cond C (fun Al=>?_) (fun Iu=>?_)
 ·have Al:y.slot=x.slot:=by simpa using Al
  have:((c.inits.take k).map iZ.slot).contains x.slot=true:=by
   rw [ah8];refine af'.2 ⟨y,?_,Al⟩;exact d5 (show (c.inits.take k)[j]? = some y by rw [ai4,g6 ka,ay])
  rw [this,ak2,f9] at bk;rw [bk] at cO;rw [f9] at cO;rw [cO] at fa;refine kp ?_;exact Fin.cB I C (aQ.of_eq (ae7 ag.bool fa.symm))
 have Iu:y.slot≠x.slot:=by simpa using Iu
 refine gx ?_;exact bn.mk (j+1) I ⟨ka,by rw [il ay,ad',an9,ck,ag6];simpa using Iu.symm⟩ cj aX (by show k-(j+1)<k-j;omega)
def N6 (p:bT) (o:eC) (_K:a'):Prop:=∃ v,o = .ret (.cw [v,.bool (gA p)])
theorem XA (p:bT) (aF:ga p):bA d0 93 [cW p] [] (N6 p):=by
 have an:=bD;have gR:gA p=(n0 p).isSome:=rfl;have ck:n0 p=if pN p&&rz p then (nZ p p.methods (t6 p.nodes.length (-1))).bind fun out=>(visitM p false 12 p.main 0 out).bind fun out=>if out.contains (-1) then none else some out else none:=rfl
 have bM:rz p=(decide (p.ef.length≤8)&&(decide (p.methods.length≤16)&&(decide (p.nodes.length≥1)&&(decide (p.nodes.length≤120)&&p.ef.all fun n=>decide (n≥1)&&decide (n≤3))))):=rfl;have fa:=Xy p aF;have gO:=fun h=>H3 p aF h
 refine bA.bh ah Tryz.func93 C C fun s I=>?_
 unfold N6;unfold cW cZ fz fE df bd at *;cases BJ:pN p with
 | false=>
  rw [BJ] at fa;rw [BJ,f9,f0 ba] at ck;rw [ck] at gR;refine b' ?_;exact Fin.bs (K:=[]) I C aJ .nil ⟨_,by rw [gR];rfl⟩
 | true=>
 rw [BJ] at fa;rw [BJ,f5] at ck;refine b' ?_;by_cases g1:p.ef.length≤8;rotate_left
 ·rw [ab' g1,f9] at bM
  rw [bM,f0 ba] at ck;rw [ck] at gR;refine aa.dY 20 C cV ?_;refine ed ?_;exact Fin.bs (K:=[]) I C aJ .nil ⟨_,by rw [gR];rfl⟩
 refine aa.dh 20 C cV ?_;rw [i7 g1,f5] at bM;refine dU ?_;by_cases g2:p.methods.length≤16;rotate_left
 ·rw [ab' g2,f9] at bM
  rw [bM,f0 ba] at ck;rw [ck] at gR;refine aa.dY 26 C cV ?_;refine ed ?_;exact Fin.bs (K:=[]) I C aJ .nil ⟨_,by rw [gR];rfl⟩
 refine aa.dh 26 C cV ?_;rw [i7 g2,f5] at bM;refine dU ?_;by_cases g3:p.nodes.length≥1;rotate_left
 ·rw [ab' g3,f9] at bM
  rw [bM,f0 ba] at ck;rw [ck] at gR;refine aa.dY 32 C cV ?_;refine ed ?_;exact Fin.bs (K:=[]) I C aJ .nil ⟨_,by rw [gR];rfl⟩
 refine aa.dh 32 C cV ?_;rw [i7 g3,f5] at bM;refine gr ?_;refine ae.cond C (fun h=>?_) (fun h=>?_)
 ·rw [show decide (p.nodes.length≤120)=false by simp at h ⊢;omega,f9] at bM
  rw [bM,f0 ba] at ck;rw [ck] at gR;refine gX ?_;exact Fin.bs (K:=[]) I C aJ .nil ⟨_,by rw [gR];rfl⟩
 have g4:p.nodes.length≤120:=by simp at h;omega
 rw [i7 g4,f5] at bM;refine kq ?_;refine ae.b5 [1] C I (σ:=Nat) (fun j=>[(4,.int .i64 (j:Int))]) (fun _=>[]) (fun j=>j≤p.ef.length∧(p.ef.all fun n=>decide (n≥1)&&decide (n≤3))=(p.ef.drop j).all fun n=>decide (n≥1)&&decide (n≤3)) (fun j=>p.ef.length-j) 0 ⟨g7 _,rfl⟩ (cl C) aX ?_;rintro j ⟨aL,aq⟩ I
 try simp only at aL aq I ⊢
 refine b7 ?_;refine ae.cond C (fun au=>?_) (fun aV=>?_)
 ·have au:j<p.ef.length:=by simpa using au
  obtain ⟨x,ab,bL⟩:=b8 (f:=a8) au;rw [drop_cons ab,List.all_cons] at aq;unfold a8 at bL;refine dG ?_;by_cases U:x≥1;rotate_left
  ·rw [ab' U,f9,f9] at aq
   rw [bM,aq,f0 ba] at ck;rw [ck] at gR;refine aa.dY 51 C cV ?_;refine bl ?_;exact Fin.bs (K:=[]) I C aJ .nil ⟨_,by rw [gR];rfl⟩
  refine aa.dh 51 C cV ?_;rw [i7 U,f5] at aq;refine dG ?_;refine ae.cond C (fun al=>?_) (fun al=>?_)
  ·rw [show decide (x≤3)=false by simp at al ⊢;omega,f9] at aq
   rw [bM,aq,f0 ba] at ck;rw [ck] at gR;refine kp ?_;exact Fin.bs (K:=[]) I C aJ .nil ⟨_,by rw [gR];rfl⟩
  rw [show decide (x≤3)=true by simp at al ⊢;omega,f5] at aq;refine gx ?_;exact bn.mk (j+1) I ⟨au,aq⟩ cj aX (by show p.ef.length-(j+1)<p.ef.length-j;omega)
 have aV:j=p.ef.length:=by simp at aV;omega
 rw [eD af,List.all_nil] at aq;rw [aq] at bM;rw [bM,g6 C] at ck;have XB:∀ n∈p.ef,1≤n∧n≤3:=fun n az=>by
  have:=ah2.1 aq n az;simpa using this
 clear bM fa;refine bl ?_;refine ae.b5 [1] C I (σ:=Nat×rN) (fun q=>[(6,.int .i64 (q.1:Int)),(5,lk q.2 (t6 q.1 (-1)))]) (fun q=>jU q.2 (t6 q.1 (-1))) (fun q=>q.1≤p.nodes.length∧sH q.2 (t6 q.1 (-1))) (fun q=>p.nodes.length-q.1) (0,none) ⟨g7 _,rfl⟩ (cl C) .nil ?_;rintro ⟨lP,bu⟩ ⟨zd,cR⟩ I
 try simp only at zd cR I ⊢
 refine b7 ?_;refine ae.cond C (fun au=>?_) (fun dV=>?_)
 ·have au:lP<p.nodes.length:=by simpa using au
  cases bu with
  | none=>
   have XC:lP=0:=by
    have:t6 lP (-1:Int)=[]:=cR;simpa using this
   subst XC;dsimp only [lk,jU] at I ⊢;refine dG ?_;refine aa.DJ ah I C C C C C C C di C C C C C C C (by show 1*8≤_;omega) (fun aY cg cs' cE dq fl I=>?_);refine fj ?_
   obtain ⟨eg,rfl⟩:∃ eg,cs'=(t6 1 (-1)).map a8++eg:=⟨cs'.drop 1,by
    conv=>lhs;rw [← ai9 1 cs',fl]
    rfl⟩
   exact bn.mk (1,some (aY,cg,eg)) I ⟨by show 1≤p.nodes.length;omega,by show (t6 1 (-1)).length+eg.length=cg;rw [← cE];simp;omega⟩ (by repeat (first|exact trivial|refine ⟨⟨_,rfl,aJ⟩,?_⟩|refine ⟨⟨_,rfl,aQ.of_eq (by (first|rfl|rw [dz af af];rfl))⟩,?_⟩)) (by simp only [jU];exact aX) (by show p.nodes.length-1<p.nodes.length-0;omega)
  | some t=>
   obtain ⟨b,cap,eg⟩:=t;have cR:(t6 lP (-1:Int)).length+eg.length=cap:=cR;rw [af3] at cR;dsimp only [lk,jU] at I ⊢;rw [af3];refine dG ?_;refine aa.DK ah I C C C C C C C di C C C C aW cV af Ig C C C (by show _*8≤_;omega) af (fun aY cg cs' cE dq fl I=>?_);refine fj ?_;rw [aq3 ba] at fl
   obtain ⟨nz,rfl⟩:∃ nz,cs'=(t6 (lP+1) (-1)).map a8++nz:=⟨cs'.drop (lP+1),by
    conv=>lhs;rw [← ai9 (lP+1) cs',fl]
    rw [ap1,ad'];rfl⟩
   exact bn.mk (lP+1,some (aY,cg,nz)) I ⟨au,by show (t6 (lP+1) (-1)).length+nz.length=cg;rw [← cE];simp⟩ (by repeat (first|exact trivial|refine ⟨⟨_,rfl,aJ⟩,?_⟩|refine ⟨⟨_,rfl,aQ.of_eq (by (first|rw [h7 af]|(simp only [lk,af3])))⟩,?_⟩)) (by simp only [jU];exact aX) (by show p.nodes.length-(lP+1)<p.nodes.length-lP;omega)
 have dV:lP=p.nodes.length:=by simp at dV;omega
 subst dV;cases bu with
 | none=>
  have:t6 p.nodes.length (-1:Int)=[]:=cR;have:=ae7 List.length this;simp at this;rw [this] at g3;simp at g3
 | some t=>
 obtain ⟨b,cap,eg⟩:=t;have oc:=Hh BJ;have fZ:(fL 0 p.cm).length<bC:=by
  have:=oc.bp;have e:(ca p).owner=fL 0 p.cm:=rfl;rw [e] at this;omega
 have gO:=gO fZ;have gG:=fun f h=>Wy (ca p) oc.ja f h
 have ze:=fun f h=>Wv (ca p) f.size f (g8 _) h
 have aU:=fun k=>WH k
 unfold fz fE df bd at gG;dsimp only [lk,jU] at I ⊢;rw [af3];refine et ?_;refine ae.b5 [1,5,7] C I (σ:=Nat×List Int) (fun q=>[(8,.int .i64 (q.1:Int))]) (fun q=>cN b (q.2.map a8++eg)) (fun q=>q.1≤p.methods.length∧nZ p p.methods (t6 p.nodes.length (-1))=nZ p (p.methods.drop q.1) q.2∧q.2.length=p.nodes.length∧∀ x∈q.2,(-1:Int)≤x) (fun q=>p.methods.length-q.1) (0,t6 p.nodes.length (-1)) ⟨g7 _,rfl,af3,fun x ab=>by rw [(List.mem_replicate.1 ab).2];exact ak9 _⟩ (cl C) (by simp only [cN];exact aX) ?_;rintro ⟨i,out⟩ ⟨aR,eR,kR,Iv⟩ I
 try simp only at aR eR kR Iv I ⊢
 unfold cN at I ⊢;refine b7 ?_;refine ae.cond C (fun au=>?_) (fun kQ=>?_)
 ·have au:i<p.methods.length:=by simpa using au
  obtain ⟨m,hm,Dg⟩:=b8 (f:=lM) au;have t':=aF.facts m (d5 hm);rw [drop_cons hm,nZ] at eR;have cG:tP p m=(decide (m.kind≥1)&&(decide (m.kind≤4)&&(decide (m.gen≥0)&&(decide (m.gen<(p.ef.length:Int))&&(iJ (ca p) m.fact&&decide (lI m.fact≤p.ef.getD m.gen.toNat 0)))))):=rfl;have gG:=gG m.fact af;have ze:=ze m.fact af;have aU:=aU m.kind;rw [ak.b6] at gG ze;unfold ak.cells at gG ze;unfold lM n2 at Dg;refine et ?_;by_cases cE:m.kind≥1;rotate_left
  ·refine aK.split 86 C (fun _=>?_) (fun h=>absurd h cV)
   rw [ab' cE,f9] at cG;rw [cG,f0 ba] at eR;rw [eR,ai6] at ck;rw [ck] at gR;refine hi ?_;exact Fin.bs (K:=[]) I C aJ .nil ⟨_,by rw [gR];rfl⟩
  refine aK.split 86 C (fun h=>absurd h cV) (fun _=>?_);rw [i7 cE,f5] at cG;refine jF ?_;by_cases dq:m.kind≤4;rotate_left
  ·refine aK.split 91 C (fun _=>?_) (fun h=>absurd h cV)
   rw [ab' dq,f9] at cG;rw [cG,f0 ba] at eR;rw [eR,ai6] at ck;rw [ck] at gR;refine hi ?_;exact Fin.bs (K:=[]) I C aJ .nil ⟨_,by rw [gR];rfl⟩
  refine aK.split 91 C (fun h=>absurd h cV) (fun _=>?_);rw [i7 dq,f5] at cG;refine jF ?_;by_cases fl:m.gen≥0;rotate_left
  ·refine aK.split 96 C (fun _=>?_) (fun h=>absurd h cV)
   rw [ab' fl,f9] at cG;rw [cG,f0 ba] at eR;rw [eR,ai6] at ck;rw [ck] at gR;refine hi ?_;exact Fin.bs (K:=[]) I C aJ .nil ⟨_,by rw [gR];rfl⟩
  refine aK.split 96 C (fun h=>absurd h cV) (fun _=>?_);rw [i7 fl,f5] at cG;refine jF ?_;by_cases eK:m.gen<(p.ef.length:Int);rotate_left
  ·refine aK.split 104 C (fun _=>?_) (fun h=>absurd h cV)
   rw [ab' eK,f9] at cG;rw [cG,f0 ba] at eR;rw [eR,ai6] at ck;rw [ck] at gR;refine hi ?_;exact Fin.bs (K:=[]) I C aJ .nil ⟨_,by rw [gR];rfl⟩
  refine aK.split 104 C (fun h=>absurd h cV) (fun _=>?_);rw [i7 eK,f5] at cG;cases j2:iJ (ca p) m.fact with
  | false=>
   rw [j2] at gG;rw [j2,f9] at cG;refine b' ?_;rw [cG,f0 ba] at eR;rw [eR,ai6] at ck;rw [ck] at gR;skip;exact Fin.bs (K:=[]) I C aJ .nil ⟨_,by rw [gR];rfl⟩
  | true=>
  rw [j2] at gG;rw [j2,f5] at cG;have ze:=ze (sr _ _ _ _ j2);obtain ⟨q,br⟩:∃ q:Nat,m.gen=q:=⟨m.gen.toNat,by omega⟩;obtain ⟨y,ay,c8⟩:=b8 (f:=a8) (l:=p.ef) (j:=q) af;have xm:p.ef.getD m.gen.toNat 0=y:=by rw [br,ae1,d7,ay];rfl
  have adg:=XB y (d5 ay);rw [xm] at cG eR;unfold a8 at c8;rw [br] at Dg ⊢;refine c2 ?_;refine ae.cond C (fun jz=>?_) (fun jz=>?_)
  ·have jz:¬ lI m.fact≤y:=by simp at jz;omega
   rw [ab' jz] at cG;rw [cG,f0 ba] at eR;rw [eR,ai6] at ck;rw [ck] at gR;refine kp ?_;exact Fin.bs (K:=[]) I C aJ .nil ⟨_,by rw [gR];rfl⟩
  have jz:lI m.fact≤y:=by simp at jz;omega
  rw [i7 jz] at cG;rw [cG,g6 C] at eR;have rP:=N1 p aF g4 (tQ m.kind) b eg cap 12 (g8 _) m.node y af af out kR;unfold cW cZ bd cN at rP;cases aw:visitM p (tQ m.kind) 12 m.node y out with
  | none=>
   rw [aw] at rP;rw [aw,ai6] at eR;rw [eR,ai6] at ck;rw [ck] at gR;refine oG ?_;refine aK.kS rfl rfl rfl rfl rfl rfl rP I (aG.all _) ?_ (fun _ _ ⟨h,_⟩ _=>by cases h);rintro _ _ ⟨⟨⟩,cs,rfl⟩ I;rw [d6] at I ⊢;unfold cN at I ⊢;refine hi ?_;skip;exact Fin.bs (K:=[]) I C aJ .nil ⟨_,by rw [gR];rfl⟩
  | some fo=>
   have qm:=rH af aw;have Iw:=Nt af Iv aw;rw [aw] at rP;rw [aw,aj5] at eR;refine oG ?_;refine aK.kS rfl rfl rfl rfl rfl rfl rP I (aG.all _) ?_ (fun _ _ ⟨h,_⟩ _=>by cases h);rintro _ _ ⟨⟨⟩,rfl⟩ I;rw [d6] at I ⊢;unfold cN at I ⊢;refine j8 ?_;exact bn.mk (i+1,fo) I ⟨au,eR,by show fo.length=_;omega,Iw⟩ cj (by simp only [cN];exact aX) (by show p.methods.length-(i+1)<p.methods.length-i;omega)
 have kQ:i=p.methods.length:=by simp at kQ;omega
 rw [eD af,nZ] at eR;rw [eR,aj5] at ck;have rP:=N1 p aF g4 false b eg cap 12 (g8 _) p.main 0 (ak9 _) af out kR;unfold cW cZ bd cN at rP;refine bl ?_;cases aw:visitM p false 12 p.main 0 out with
 | none=>
  rw [aw] at rP;rw [aw,ai6] at ck;rw [ck] at gR;refine aa.bX rfl rfl rfl rfl rfl rP I (aG.all _) ?_ (fun _ _ ⟨h,_⟩ _=>by cases h);rintro _ _ ⟨⟨⟩,cs,rfl⟩ I;rw [d6] at I ⊢;unfold cN at I ⊢;refine ed ?_;exact Fin.bs (K:=[]) I C aJ .nil ⟨_,by rw [gR];rfl⟩
 | some fo=>
 have qm:=rH (ak9 _) aw;have Iw:=Nt (ak9 _) Iv aw;rw [aw] at rP;rw [aw,aj5] at ck;refine aa.bX rfl rfl rfl rfl rfl rP I (aG.all _) ?_ (fun _ _ ⟨h,_⟩ _=>by cases h);rintro _ _ ⟨⟨⟩,rfl⟩ I;rw [d6] at I ⊢;unfold cN at I ⊢;refine bl ?_;refine ae.b5 [1,5] C I (σ:=Nat) (fun j=>[(10,.int .i64 (j:Int))]) (fun _=>cN b (fo.map a8++eg)) (fun j=>j≤p.nodes.length∧(fo.take j).contains (-1)=false) (fun j=>p.nodes.length-j) 0 ⟨g7 _,rfl⟩ (cl C) (by simp only [cN];exact aX) ?_;rintro vl ⟨Ix,im⟩ I
 try simp only at Ix im I ⊢
 unfold cN at I ⊢;refine jE ?_;refine aa.pG ah C C C C C C C ?_;refine gr ?_;refine ae.cond C (fun Iy=>?_) (fun N7=>?_)
 ·have Iy:vl<p.nodes.length:=by simpa using Iy
  obtain ⟨z,bG⟩:∃ z,fo[vl]? = some z:=⟨_,f7 af⟩;have Ia:=Iw z (d5 bG);have Iz:fo.getD vl 0=z:=by rw [d7,bG];rfl
  refine dG ?_;refine aa.ej ah vl C C C C C C C C C C af ?_;refine aa.jd ah I C C C C C C aW C (Ip af) ?_;rw [Iz];refine gr ?_;refine ae.cond C (fun az=>?_) (fun az=>?_)
  ·have az:z = -1:=by simp at az;omega
   subst az;rw [show fo.contains (-1)=true from ah8.2 (d5 bG),g6 C] at ck;rw [ck] at gR;refine kp ?_;exact Fin.bs (K:=[]) I C aJ .nil ⟨_,by rw [gR];rfl⟩
  have az:z ≠ -1:=by simp at az;omega
  refine gx ?_;exact bn.mk (vl+1) I ⟨Iy,by rw [il bG,an9,im,ag6];simpa using fun e=>az e.symm⟩ cj (aG.all _) (by show p.nodes.length-(vl+1)<p.nodes.length-vl;omega)
 have N7:vl=p.nodes.length:=by simp at N7;omega
 rw [ag9 af] at im;rw [im,f0 ba] at ck;rw [ck] at gR;refine ez ?_;exact Fin.bs (K:=[]) I C aJ .nil ⟨_,by rw [gR];rfl⟩
theorem XD (p:bT) (aF:ga p):aT d0 45 [cW p] (.bool (gA p)):=by
 have U:=XA p aF;refine aT.bh ah Tryz.func45 C C fun s I=>?_
 unfold cW cZ at *;refine dt ?_;refine aa.bX rfl rfl rfl rfl rfl U I .nil ?_ (fun _ _ ⟨_,h⟩ _=>by cases h);rintro _ aO ⟨v,⟨⟩⟩ I;refine ed ?_;exact bB I
theorem N8 {s x:Int} {l:List Int}:x∈nx s l↔x=s∨x∈l:=by
 unfold nx;split
 ·rename_i h
  constructor
  ·exact .inr
  ·rintro (rfl|ad)
   ·simpa using h
   ·exact ad
 ·rw [List.mem_mergeSort,ae',H1]
  exact Or.comm
theorem N9 (k:dv) (x:ch):(k.ask x).bp=k.bp:=by
 unfold dv.ask
 repeat' split
 all_goals rfl
def rQ (w:bz) (σ:d'):Prop:=∀ q,(2≤q.getD 1 0→(σ q).bp=[])∧∀ x∈(σ q).bp,0≤x∧x<(w.owner.length:Int)
theorem rQ.h2 {w:bz} {σ:d'} (h:rQ w σ) {sp:List Int} {k:dv} (aE:(2≤sp.getD 1 0→k.bp=[])∧∀ x∈k.bp,0≤x∧x<(w.owner.length:Int)):rQ w (σ.h2 sp k):=by
 intro q;unfold d'.h2;by_cases e:q=sp
 ·rw [g6 e,e];exact aE
 ·rw [f0 e];exact h q
theorem N' {w:bz} {neg:Bool} {arg:Int} {path:List Int} (aF:path.length≤2) (ar:∀ s∈path,0≤s∧s<(w.owner.length:Int)):∀ (j:Nat),j≤path.length→∀ σ,rQ w σ→rQ w (hb neg arg path j σ)
  | 0,_,σ,h=>by
    rw [hb];exact h.h2 (h _)
  | j+1,aL,σ,h=>by
    have U:=N' (neg:=neg) (arg:=arg) aF ar j af σ h;rw [hb];generalize hb neg arg path j σ=IA at U;have au:j<path.length:=by omega
    have ad:rQ w (IA.h2 (bx arg (path.take j)) ((IA (bx arg (path.take j))).slot (path.getD j 0))):=by
      refine U.h2 ⟨fun ad=>?_,fun x ab=>?_⟩
      · exfalso
        have:(bx arg (path.take j)).getD 1 0=((path.take j).length:Int):=rfl;rw [this,ae8] at ad;omega
      · have ab:x∈nx (path.getD j 0) (IA (bx arg (path.take j))).bp:=ab
        rcases N8.1 ab with rfl|ab
        · rw [d7,f7 au]
          exact ar _ (an6 au)
        · exact (U _).2 x ab
    exact ad.h2 (ad _)
theorem Eu {w:bz} {f:ak} (h:ik w f=true) (aC:f.c5=true):f.path.length≤2∧∀ s∈f.path,0≤s∧s<(w.owner.length:Int):=by
 simp only [ik,aC,ag7,f8,i8,ah2] at h;exact ⟨h.2.2.2.2.2.1,fun s ar=>by have:=h.2.2.2.2.2.2.1 s ar;omega⟩
theorem XE {w:bz} {x:ch} (az:ik w x.1=true) (aC:x.1.c5=true) {σ:d'} (h:rQ w σ):rQ w (addLit σ x):=by
 obtain ⟨U,ad⟩:=Eu az aC;have al:=N' (neg:=x.2) (arg:=x.1.arg) U ad x.1.path.length (g8 _) σ h;unfold addLit;simp only;refine al.h2 ?_;rw [N9];exact al _
theorem XF {w:bz} {l:List ch} (h:∀ x∈l,ik w x.1=true∧x.1.c5=true):rQ w (ev l):=by
 unfold ev;have key:∀ (l:List ch) (σ:d'),(∀ x∈l,ik w x.1=true∧x.1.c5=true)→rQ w σ→rQ w (l.foldl addLit σ):=by
  intro l
  induction l with
  | nil=>exact fun σ _ h=>h
  | cons x r a1=>
   intro σ ab XG;exact a1 _ (fun y ay=>ab y (i0 _ ay)) (XE (ab x i6).1 (ab x i6).2 XG)
 exact key l xr h (fun q=>⟨fun _=>rfl,fun x ab=>by cases ab⟩)
def ua (w:bz) (L:List ch):Prop:=∀ x∈L,ik w x.1=true∧x.1.c5=true
def iB (x:ch):ak:=if x.2 then x.1.not else x.1
def rR (arg:Int) (path:List Int) (x:ch):Bool:=decide (x.1.arg=arg)&&x.1.path==path
def ft (L:List ch) (arg:Int) (path:List Int):List ch:=L.filter (rR arg path)
def vm (path IB:List Int):Bool:=decide (path.length≥IB.length)&&path.take IB.length==IB
def ln (arg:Int) (path:List Int) (x:ch):Bool:=decide (x.1.arg=arg)&&vm x.1.path path
def nA (L:List ch) (arg:Int) (path:List Int) (s:Int):Bool:=L.any (ln arg (path++[s]))
def jV (n:Nat) (L:List ch) (arg:Int) (path:List Int):List Int:=((ag3 n).filter fun s=>nA L arg path (s:Nat)).map fun s:Nat=>(s:Int)
def lo (L:List ch) (arg:Int) (path:List Int):Bool := !L.any fun x => !x.2&&ln arg path x
def sM (n:Nat) (L:List ch) (arg:Int) (path:List Int):Bool:=(jV n L arg path).all fun s=>lo L arg (path++[s])
def pX:List ch→Int×Int×List Int→Option (Int×Int×List Int)
 | [],a=>some a
 | x::r,a=>
  if x.1.op=2 then (if decide (x.1.cls>1) != x.2 then none else pX r a)
  else if x.1.op=3 then (if x.2 then pX r (max a.1 x.1.n,a.2.1,a.2.2) else pX r (a.1,min a.2.1 (x.1.n-1),a.2.2))
  else if x.2 then pX r (a.1,a.2.1,a.2.2++[x.1.n])
  else pX r (max a.1 x.1.n,min a.2.1 x.1.n,a.2.2)
def BK:Nat→Int→List Int→Int
 | 0,n,_=>n
 | k+1,n,l=>if l.contains n then BK k (n+1) l else n
def vn (n:Nat) (L:List ch) (arg:Int) (path:List Int):Bool:=
 match pX (ft L arg path) (-1000000000,1000000000,[]) with
 | none=>false
 | some a=>decide (BK (a.2.2.length+1) a.1 a.2.2≤a.2.1)&&sM n L arg path
def qI (x:ch):Bool:=(decide (x.1.op=2)&&(decide (x.1.cls=0)||decide (x.1.cls=2)))==x.2
def ub (n:Nat) (L:List ch) (arg:Int) (path:List Int):Bool:=((ft L arg path).all fun x => !qI x)&&sM n L arg path
def qJ:List ch→(Nat→Bool)×(Nat→Bool)→Option ((Nat→Bool)×(Nat→Bool))
 | [],a=>some a
 | x::r,a=>
  if x.1.op≠2∨x.1.cls=1∨x.1.cls=2 then (if x.2 then qJ r a else none)
  else if x.2 then qJ r (a.1,fun k=>if k=x.1.cls.toNat then true else a.2 k)
  else qJ r (fun k=>if k=x.1.cls.toNat then true else a.1 k,a.2)
def sN (w:bz) (L:List ch) (cn:List Int→Bool) (arg:Int) (path:List Int):List Int→(Nat→Bool)×(Nat→Bool)→Option ((Nat→Bool)×(Nat→Bool))
 | [],a=>some a
 | s::r,a=>
  if !lo L arg (path++[s]) && !cn (path++[s]) then none
  else sN w L cn arg path r (if lo L arg (path++[s]) then a.1 else fun k=>if k=(w.owner.getD s.toNat 0).toNat then true else a.1 k,
   if cn (path++[s]) then a.2 else fun k=>if k=(w.owner.getD s.toNat 0).toNat then true else a.2 k)
def xA (w:bz) (L:List ch) (cn:List Int→Bool) (arg:Int) (path:List Int):Bool:=
  match qJ (ft L arg path) (fun _=>false,fun _=>false) with
  | none=>false
  | some a=>match sN w L cn arg path (jV w.owner.length L arg path) a with
    | none=>false
    | some a => !a.2 0&&(ag3 (3+w.ps.length)).all fun k => !(hs w.ps w.ps.length (fun k=>if k=0 then false else a.1 k) k&&a.2 k)
def oY (w:bz) (L:List ch) (arg:Int):Nat→List Int→Bool
 | 0,_=>false
 | k+1,path=>vn w.owner.length L arg path||(ub w.owner.length L arg path||xA w L (oY w L arg k) arg path)
def BL (w:bz) (L:List ch):Bool:=(ag3 3).all fun a=>oY w L ((a:Nat):Int) 3 []
def oZ (L:List ch):ag := .aA 6 (L.map fun x=>(iB x).bK) .bb
def kW (w:bz) (L:List ch) (arg:Int) (path:List Int):ag := .agg [df w.ps,bd w.owner,oZ L,.int .i64 arg,bd path,.bool false]
theorem zf (x:ch) (ab:x.1.c5=true):aT d0 213 [(iB x).bK] (.cw [x.1.bK,.bool x.2]):=by
 have an:=bD;refine aT.bh ah Tryz.func213 C C fun s I=>?_
 obtain ⟨⟨o,a,p,c,n,ks⟩,b⟩:=x;have ab:(ak.mk o a p c n ks).c5=true:=ab;have ay:([ak.mk o a p c n ks].map ak.bK)[0]? = some (ak.mk o a p c n ks).bK:=rfl;unfold ak.c5 at ab;simp only [ak.op] at ab;have bE:o≠5:=fun e=>by subst e;simp at ab
 unfold iB;cases b with
 | true=>
  rw [g6 C];simp only [ak.b6,ak.cells,ak.not,ak.op,ak.arg,ak.path,ak.cls,ak.n,ak.kids] at ay ⊢
  repeat (first|(refine T7 I ?_;clear I;intro I)|refine aa.eb ah I rfl rfl rfl rfl rfl rfl rfl (fun cH I=>?_))
  exact Fin.cB I (wY C C (bo.get aW I) C C) aJ
 | false=>
  rw [f0 ba];simp only [ak.b6,ak.cells,ak.not,ak.op,ak.arg,ak.path,ak.cls,ak.n,ak.kids]
  repeat (first|(refine DG ?_)|refine aa.eb ah I C C C C C C C (fun cH I=>?_))
  refine ae.cond C (fun h=>absurd e2 bE) (fun _=>?_);refine cC I ?_;intro I;exact Fin.cB I (wY C C (bo.get aW I) C C) aJ
theorem Oa (a b:List Int) (a6:a.length<bC) (dO:b.length<bC):aT d0 250 [bd a,bd b] (.bool (vm a b)):=by
 have an:=bD;refine aT.bh ah Tryz.func250 C C fun s I=>?_
 unfold bd vm;by_cases h:b.length≤a.length
 ·have U:=u4 (a.take b.length) b uz dO
  rw [i7 h,f5];unfold bd at U;rw [List.map_take] at U;have e:(b.map a8).length=b.length:=d9 _;rw [← e] at U;refine dt ?_;refine aa.dY 10 C e2 ?_;refine dU ?_;refine aa.slice ah 0 (b.map a8).length C C C C C C C C (.inr C) (.inl ⟨rfl,rfl⟩) (.inr ⟨_,_,rfl,rfl⟩) (.inl ⟨rfl,rfl⟩) (g7 _) e2 ?_;rw [am6];refine c2 ?_;exact Fin.cB I C (aQ.of_eq (by rw [e]))
 ·rw [ab' h,f9]
  refine dt ?_;refine aa.dh 10 C e2 ?_;refine ed ?_;exact bB I
theorem IC (w:bz) (L:List ch) (arg:Int) (path:List Int) (bu:Int) (aF:path.length≤3):aT d0 216 [kW w L arg path,.int .i64 bu] (kW w L arg (path++[bu])):=by
 have an:=bD;refine aT.bh ah Tryz.func216 C C fun s I=>?_
 unfold kW oZ df bd;refine jE ?_;refine aa.eb ah I C C C C C C C (fun o0 I=>?_);refine fI ?_;refine ae.rk ah mixed C (bc.run C ?_);refine bg.AK 8 ah I C C C C C C C C C di C C C (.inr C) C (y1 _) C (d9 _).symm (by show path.length*8≤_;omega) af (fun _ _ => .inl trivial) (fun ea I=>?_);refine bc.run C ?_;refine bg.fO 11 ah I C C C C C C C C C di C C C C C C C C .here (d9 _).symm jS af (fun _ _ => .inl trivial) (fun dj I=>?_);refine bc.run C ?_;refine bc.cK 15 ah I C C C C C C C C C C C aW b1 (fun I=>?_);refine bc.run C ?_;refine bc.done C ?_;refine er ?_;exact Fin.cB I (oH C C (bo.get aW I) C) (aQ.agg (.cons aJ (.cons aJ (.cons aJ (.cons aJ (.cons (aQ.of_eq (by rw [ad'];rfl) |>.trans aQ.bb) (.one aJ)))))))
def vo (g:Nat) (l:List Int) (eg:List ag):a':=[(.own g,.box 3 (l.map a8++eg))]
theorem XH (g cap:Nat) (l:List Int) (eg:List ag) (n:Int) (aC:l.length<bC):bA d0 92 [ee g l.length cap,.int .i64 n] (vo g l eg) (fun o K=>o = .ret (.int .i64 (match l.findIdx? (· == n) with
  | some i=>(i:Int)
  | none => -1))∧K=vo g l eg):=by
 have an:=bD;refine bA.bh ah Tryz.func92 C C fun s I=>?_
 unfold vo at I ⊢;refine dt ?_;refine aa.pG ah C C C C C C C ?_;refine dG ?_;refine ae.b5 [0,1,7] C I (σ:=Nat) (fun j=>[(8,.int .i64 (j:Int))]) (fun _=>vo g l eg) (fun j=>j≤l.length∧∀ i,i<j→l[i]? ≠ some n) (fun j=>l.length-j) 0 ⟨g7 _,fun i aR=>absurd aR (an2 _)⟩ (cl C) (aG.all _) ?_;rintro j ⟨aL,aq⟩ I;unfold vo at I ⊢;refine b7 ?_;refine ae.cond C (fun au=>?_) (fun aV=>?_);rotate_left
 ·have aV:j=l.length:=by simp at aV;omega
  have ab:l.findIdx? (· == n)=none:=by
   rw [ai2];intro z bG;obtain ⟨i,aR⟩:=ai0 bG;have U:=qs aR;have ad:=aq i af;simp only [beq_eq_false_iff_ne];intro e;subst e;exact ad aR
  rw [ab];refine ez ?_;exact Fin.bs I C aJ (aG.all _) ⟨rfl,rfl⟩
 have au:j<l.length:=by simpa using au
 obtain ⟨y,ay⟩:∃ y,l[j]? = some y:=⟨_,f7 au⟩;have c8:(l.map a8++eg)[j]? = some (.int .i64 y):=by
  rw [ag0 (by simpa using au)];simp [ay,a8]
 refine bl ?_;refine aa.ej ah j C C C C C C C C C C au ?_;refine aa.jd ah I C C C C C C aW C (by show (l.map a8++eg)[j*1]? = _;rw [ag'];exact c8) ?_;refine gr ?_;refine ae.cond C (fun az=>?_) (fun az=>?_)
 ·have az:n=y:=by simpa using az
  subst az;have ab:l.findIdx? (· == n)=some j:=by
   rw [ah3];refine ⟨au,by simpa using (ae2.1 ay).2,fun i aR=>?_⟩;have:=aq i aR;rw [f7 af] at this;simpa using this
  rw [ab];refine kp ?_;exact Fin.bs I C aJ (aG.all _) ⟨rfl,rfl⟩
 ·have az:n≠y:=by simpa using az
  refine gx ?_;refine bn.mk (j+1) I ⟨au,fun i aR=>?_⟩ cj (aG.all _) n4;rcases ah5.1 aR with aR|rfl
  ·exact aq i aR
  ·rw [ay];intro e;cases e;exact az C
theorem Ob (g cap:Nat) (l:List Int) (eg:List ag) (n:Int) (aC:l.length<bC):bA d0 43 [ee g l.length cap,.int .i64 n] (vo g l eg) (fun o K=>o = .ret (.bool (l.contains n))∧K=vo g l eg):=by
 rw [← Ma];have h:=XH g cap l eg n aC;refine bA.bh ah Tryz.func43 C C fun s I=>?_
 refine dt ?_;refine aa.bX rfl rfl rfl rfl rfl h I (aG.all _) ?_ (fun _ _ ⟨h,_⟩ _=>by cases h);rintro _ _ ⟨⟨⟩,rfl⟩ I;rw [d6] at I ⊢;refine er ?_;exact Fin.bs I C aJ (aG.all _) ⟨rfl,rfl⟩
theorem XI (bu:rN) (l:List Int) (n:Int) (ar:sH bu l) (aC:l.length<bC):bA d0 43 [lk bu l,.int .i64 n] (jU bu l) (fun o K=>o = .ret (.bool (l.contains n))∧K=jU bu l):=by
 cases bu with
 | none=>
  have:l=[]:=ar;subst this;have h:=yT [] n du;unfold bd at h;have h:=aT.args (show cU [.aA 0 [] .nil,.int .i64 n] [.aA 1 ([].map a8) .bb,.int .i64 n] from .cons aQ.empty (.one aJ)) h;exact fun s _=>hp.mono (h s) (fun o aj ⟨U,ad⟩=>⟨[],ad,trivial,U,rfl⟩)
 | some x=>
  obtain ⟨g,cap,eg⟩:=x;exact Ob g cap l eg n aC
def zg (σ:d') (mb:Nat) (pre:List gd) (e:gd) (post:List gd):a':=rM mb (ny (pre++e::post))::(pre.flatMap (iN σ)++post.flatMap (iN σ))
theorem Ev (σ:d') (mb:Nat) (pre:List gd) (e:gd) (post:List gd):(mh σ mb (pre++e::post)).Perm (iN σ e++zg σ mb pre e post):=by
 unfold mh zg;rw [av9,ak0];refine (am1.cons _ ?_).trans an5.symm;exact aw2 _ _ _
theorem XJ {σ σ':d'} {mb:Nat} {pre:List gd} {e e':gd} {post:List gd} (dn:e'.sp=e.sp) (an:e'.b=e.b) (ar:∀ x∈pre++post,σ' x.sp=σ x.sp):(iN σ' e'++zg σ mb pre e post).Perm (mh σ' mb (pre++e'::post)):=by
 have U:ny (pre++e'::post)=ny (pre++e::post):=by unfold ny;simp [dn,an]
 have ad:∀ l:List gd,(∀ x∈l,σ' x.sp=σ x.sp)→l.flatMap (iN σ')=l.flatMap (iN σ):=fun l aC=>by
  induction l with
  | nil=>rfl
  | cons x r a1=>
   rw [ak0,ak0,a1 (fun y ay=>aC y (i0 _ ay))];unfold iN;rw [aC x i6]
 refine am1.trans ?_ (Ev σ' mb pre e' post).symm;unfold zg;rw [U,ad pre (fun x ab=>ar x (aj0 _ ab)),ad post (fun x ab=>ar x (ao6 _ ab))]
theorem pW.apart {n:Nat} {σ:d'} {pre:List gd} {e:gd} {post:List gd} (h:pW n σ (pre++e::post)):∀ x∈pre++post,x.sp≠e.sp:=by
 have az:=h.nodup;rw [ad',ae3,ap4] at az;obtain ⟨U,ad,al⟩:=az;intro x ab bU;rcases ae'.1 ab with ab|ab
 ·exact al x.sp (af'.2 ⟨x,ab,rfl⟩) e.sp i6 bU
 ·rw [List.nodup_cons] at ad
  exact ad.1 (af'.2 ⟨x,ab,bU⟩)
theorem pW.h2 {n m:Nat} {σ:d'} {pre:List gd} {e e':gd} {post:List gd} (h:pW n σ (pre++e::post)) (dn:e'.sp=e.sp) (adh:n≤m) {k:dv} (aE:mT m k) (cR:sH e'.bu k.bp):pW m (σ.h2 e.sp k) (pre++e'::post):=by
 have a6:=h.apart;have hm:(pre++e'::post).map gd.sp=(pre++e::post).map gd.sp:=by simp [dn]
 refine ⟨fun x ab=>?_,by rw [hm];exact h.nodup,fun q br=>?_,fun x ab=>?_,fun q=>?_⟩
 ·rcases ae'.1 ab with ab|ab
  ·exact h.four x (aj0 _ ab)
  ·rcases af2.1 ab with rfl|ab
   ·rw [dn];exact h.four e ba
   ·exact h.four x (by simp [ab])
 ·rw [hm] at br
  unfold d'.h2;rw [f0 (fun bU=>br (by rw [bU];simp))];exact h.rest q br
 ·by_cases BM:x=e'
  ·subst BM
   unfold d'.h2;rw [g6 dn];exact cR
  ·have ab:x∈pre++post:=by
    rcases ae'.1 ab with ab|ab
    ·exact aj0 _ ab
    ·rcases af2.1 ab with rfl|ab
     ·exact absurd C BM
     ·exact ao6 _ ab
   unfold d'.h2;rw [f0 (a6 x ab)];exact h.bu x (by rcases ae'.1 ab with ab|ab<;>simp [ab])
 ·unfold d'.h2
  split
  ·exact aE
  ·obtain ⟨dE,a2,a3,a4,a5⟩:=h.mU q
   exact ⟨dE,a2,by omega,by omega,a5⟩
theorem bo.ID {L R:a'} {k:bN} {o:dH} (h:bo L k o R):L.Perm ((k,o)::R):=by
 induction h with
 | here=>exact .refl _
 | there _ a1=>exact (am1.cons _ a1).trans (am1.swap _ _ _)
theorem aG.ID {L K R:a'} (h:aG L K R):L.Perm (K++R):=by
 induction h with
 | nil=>exact .refl _
 | cons h t a1=>exact h.ID.trans (am1.cons _ a1)
theorem aG.XK {L A B:a'} (h:aG L A []) (p:A.Perm B):aG L B []:=aG.iA ((by have:=h.ID;rw [d6] at this;exact this:L.Perm A).trans p)
theorem XL (arg:Int) (path:List Int) (j:Nat) (bu:Int) (aL:path[j]? = some bu) (ad:j<2) :
  aT d0 281 [iM (bx arg (path.take j)),.int .i64 bu] (iM (bx arg (path.take (j+1)))):=by
 match path,j,aL,ad with
 | a::r,0,aL,_=>
  have:a=bu:=by simpa using aL
  subst this;exact NO arg 0 0 a
 | a::b::r,1,aL,_=>
  have:b=bu:=by simpa using aL
  subst this;exact NP arg a 0 b
theorem XM {σ:d'} {e e':gd} {k:dv} (h:e'.sp=e.sp):iN (σ.h2 e.sp k) e'=pU e'.b k e'.on (lk e'.bu k.bp)++jU e'.bu k.bp:=by
 unfold iN d'.h2;rw [g6 h]
theorem XN (bu:rN) (l:List Int):fe (lk bu l)=true:=by
 cases bu with
 | none=>rfl
 | some x=>rfl
theorem XO (arg:Int):bx arg []=[arg,0,0,0]:=rfl
def kX (bS:Nat) (sp:List Int) (σ:d') (mb:Nat) (pre:List gd) (e:gd) (post:List gd) (kb:Nat) (k:dv) (on:bN) (bu:rN):a':=
 (.own bS,.box 319 (sp.map (ag.int .i64)))::(.own kb,.box 340 (kV k (.aA 1 (k.e6.map a8) on) (lk bu k.bp)))::(on,.row 3 1 k.e6.length)::(jU bu k.bp++zg σ mb pre e post)
theorem Oc (bS:Nat) (sp:List Int) (σ:d') (mb:Nat) (pre:List gd) (e:gd) (post:List gd):(mh σ mb (pre++e::post)++[((bN.own bS,dH.box 319 (sp.map (ag.int .i64))):bN×dH)]).Perm (kX bS sp σ mb pre e post e.b (σ e.sp) e.on e.bu):=
 (as8.trans (am1.cons _ (Ev σ mb pre e post)))
theorem Ew {bS:Nat} {sp:List Int} {σ:d'} {mb n:Nat} {pre:List gd} {e:gd} {post:List gd} (cG:pW n σ (pre++e::post)) (k:dv) (on:bN) (bu:rN):(kX bS sp σ mb pre e post e.b k on bu).Perm ((.own bS,.box 319 (sp.map (ag.int .i64)))::mh (σ.h2 e.sp k) mb (pre++⟨e.sp,e.b,on,bu⟩::post)):=by
 refine am1.cons _ ?_;have h:=XJ (σ:=σ) (σ':=σ.h2 e.sp k) (mb:=mb) (pre:=pre) (e:=e) (e':=⟨e.sp,e.b,on,bu⟩) (post:=post) C C (fun x ab=>by unfold d'.h2;rw [f0 (cG.apart x ab)]);rw [XM (e:=e) (e':=⟨e.sp,e.b,on,bu⟩) C] at h;exact h
theorem mT.mono {n m:Nat} (h:n≤m) {k:dv} (aE:mT n k):mT m k:=⟨aE.gb,aE.no,by have:=aE.e6;omega,by have:=aE.bp;omega,aE.num⟩
theorem XP (s:Int) (l:List Int):(nx s l).length≤l.length+1:=by
 unfold nx;split
 ·omega
 ·rw [as9];simp
theorem aG.XQ {L A B:a'} (h:L.Perm (A++B)):∃ R,aG L A R:=by
 induction A generalizing L with
 | nil=>exact ⟨L,.nil⟩
 | cons x A a1=>
  obtain ⟨k,o⟩:=x;obtain ⟨a,b,iz⟩:=au2 (h.symm.subset (aj0 _ i6));rw [iz] at h;have ad:(a++b).Perm (A++B):=(aC8 _).1 (an5.symm.trans h);obtain ⟨R,dM⟩:=a1 ad;exact ⟨R,.cons (bo.NS iz) dM⟩
theorem mT.need {n:Nat} {k:dv} (h:mT n k) (neg:Bool):mT n (k.need neg):=⟨h.gb,h.no,h.e6,h.bp,h.num⟩
theorem mT.slot {n:Nat} {k:dv} (h:mT n k) (s:Int):mT (n+1) (k.slot s):=⟨h.gb,h.no,by have:=h.e6;show k.e6.length≤_;omega,by have:=h.bp;have:=XP s k.bp;show (nx s k.bp).length≤_;omega,h.num⟩
theorem mT.ask {n:Nat} {k:dv} (h:mT n k) {w:bz} (hw:w.ps.length≤60) {x:ch} (ab:tY w x):mT (n+1) (k.ask x):=by
 have iT:=y6.of ab.node ab.leaf;have oV:=ab.num;obtain ⟨U,ad,al,bf,bE⟩:=h;unfold dv.ask;split
 ·rename_i b3
  have aB:=iT.cls b3;have aF:2^x.1.cls.toNat<2^64:=ai' af af;split
  ·exact ⟨U,aj4 ad aF,by simp only;omega,by simp only;omega,bE⟩
  ·exact ⟨aj4 U aF,ad,by simp only;omega,by simp only;omega,bE⟩
 ·split
  ·split
   ·exact ⟨U,ad,by simp only;omega,by simp only;omega,by simp only;omega⟩
   ·exact ⟨U,ad,by simp only;omega,by simp only;omega,by simp only;omega⟩
  ·split
   ·exact ⟨U,ad,by simp only [f6,ag8];omega,by simp only;omega,bE⟩
   ·exact ⟨U,ad,by simp only;omega,by simp only;omega,by simp only;omega⟩
theorem Od (k:dv) (x:ch):(k.ask x).bp=k.bp:=by
 unfold dv.ask;split
 ·split<;>rfl
 ·split
  ·split<;>rfl
  ·split<;>rfl
theorem XR (w:bz) (hw:w.ps.length≤60) (mb n:Nat) (σ:d') (es:List gd) (cG:pW n σ es) (az:n+3<bC) (x:ch) (ab:tY w x) :
  bA d0 269 [ib w mb,h' x] (mh σ mb es) (fun o K=>o = .ret (.cw [])∧∃ dF,K=mh (addLit σ x) mb dF∧pW (n+3) (addLit σ x) dF):=by
 have an:=bD;have iT:=y6.of ab.node ab.leaf;have IE:=NU w mb n σ es cG x.1.arg 0 0 0;obtain ⟨f,neg⟩:=x;simp only at iT IE;have ih:=iT.path;refine bA.bh ah Tryz.func269 C C fun s I=>?_
 unfold ib at IE;unfold h' qy ak.cells;unfold ib
 repeat (first|(refine LA I ?_;clear I;intro I)|refine aa.eb ah I rfl rfl rfl rfl rfl rfl rfl (fun cH I=>?_))
 refine aa.bX rfl rfl rfl rfl rfl IE I (aG.all _).there ?_ (fun _ _ ⟨_,_,_,_,h,_⟩ _=>by cases h);rintro _ _ ⟨pre,e,post,dn,⟨⟩,rfl,cG⟩ I;refine aa.run ah C (aa.nil ?_);refine b0 ?_;refine ae.mG I (kX cH (bx f.arg []) σ mb pre e post e.b (σ e.sp) e.on e.bu) (aG.iA (Oc cH (bx f.arg []) σ mb pre e post)) (fun aE=>?_);revert aE
 repeat clear I
 intro I;refine ae.TY (σ:=Unit) (fun _=>[(0,ib w mb),(3,.bw (qy (f,neg)) 0),(4,.ptr cH 0),(5,.ptr e.b 0) ]) (fun _=>kX cH (bx f.arg []) σ mb pre e post e.b ((σ e.sp).need neg) e.on e.bu) (fun _=>True) ?_ ?_
 ·unfold kX kV dv.need
  unfold kX kV at I;cases e7:(σ e.sp).gC<;>rw [e7] at I<;>cases neg
  all_goals
   refine cC I ?_;intro I;exact k8.mk () I trivial (cl C) Em
 rintro _-I;refine fP ?_;refine ae.b5 [0,3,4,29,30] C I (σ:=Nat×List gd×gd×List gd) (fun q=>[(31,.int .i64 (q.1:Int)),(5,.ptr q.2.2.1.b 0)]) (fun q=>(.own cH,.box 319 ((bx f.arg (f.path.take q.1)).map (ag.int .i64)))::mh (hb neg f.arg f.path q.1 σ) mb (q.2.1++q.2.2.1::q.2.2.2))
  (fun q=>q.1≤f.path.length∧q.2.2.1.sp=bx f.arg (f.path.take q.1)∧pW (n+q.1) (hb neg f.arg f.path q.1 σ) (q.2.1++q.2.2.1::q.2.2.2)) (fun q=>f.path.length-q.1) (0,pre,e,post) ⟨g7 _,dn,?_⟩ (cl C) (aG.iA ?_) ?_
 ·have:=cG.h2 (e':=e) C (g8 _) ((cG.mU e.sp).need neg) (cG.bu e ba)
  rw [dn] at this;exact this
 ·have bq:hb neg f.arg f.path 0 σ=σ.h2 e.sp ((σ e.sp).need neg):=by rw [hb,XO,dn]
  show am1 _ (((bN.own cH,dH.box 319 ((bx f.arg []).map (ag.int .i64))):bN×dH)::mh (hb neg f.arg f.path 0 σ) mb (pre++e::post));rw [bq];exact Ew (mb:=mb) (bS:=cH) (sp:=bx f.arg []) cG ((σ e.sp).need neg) e.on e.bu
 rintro ⟨j,pre,e,post⟩ ⟨aL,dn,cG⟩ I;simp only at aL dn cG I ⊢;generalize ck:hb neg f.arg f.path j σ=S at cG I ⊢;have aE:=cG.mU e.sp;refine b7 ?_;refine ae.cond C (fun au=>?_) (fun aV=>?_);rotate_left
 ·have aV:j=f.path.length:=by simp at aV;omega
  subst aV;rw [ae5] at dn I ⊢;have aD:addLit σ (f,neg)=S.h2 e.sp ((S e.sp).ask (f,neg)):=by
   unfold addLit;simp only;rw [ck,dn]
  have Oe:=Xd w hw e.b (S e.sp) ⟨aE.gb,aE.no,by have:=aE.e6;omega⟩ aE.num e.on (lk e.bu (S e.sp).bp) (XN _ _) (f,neg) ab;refine ae.mG I (kX cH (bx f.arg f.path) S mb pre e post e.b (S e.sp) e.on e.bu) (aG.iA (am1.cons _ (Ev S mb pre e post))) (fun aE=>?_);revert aE
  repeat clear I
  intro I;unfold h' qy ak.cells at Oe;unfold kX at I ⊢;refine bl ?_;refine aa.bX rfl rfl rfl rfl rfl Oe I (.cons (.there .here) (.cons (.there .here) .nil)) ?_ (fun _ _ ⟨h,_⟩ _=>by cases h);rintro _ _ ⟨⟨⟩,xt,rfl⟩ I;refine gr ?_;have qZ:=Ew (mb:=mb) (bS:=cH) (sp:=bx f.arg f.path) cG ((S e.sp).ask (f,neg)) xt e.bu;rw [← aD] at qZ;unfold kX at qZ;rw [Od] at qZ;have BN:(pU e.b ((S e.sp).ask (f,neg)) xt (lk e.bu (S e.sp).bp)++((.own cH,.box 319 ((bx f.arg f.path).map (ag.int .i64)))::(jU e.bu (S e.sp).bp++zg S mb pre e post))).Perm (mh (addLit σ (f,neg)) mb (pre++⟨e.sp,e.b,xt,e.bu⟩::post)++[(.own cH,.box 319 ((bx f.arg f.path).map (ag.int .i64)))]):=by
   refine am1.trans ?_ ((qZ.trans ?_))
   ·exact an5 (l₁:=pU e.b ((S e.sp).ask (f,neg)) xt (lk e.bu (S e.sp).bp))
   ·exact as8 (l₁:=[((bN.own cH,dH.box 319 ((bx f.arg f.path).map (ag.int .i64))):bN×dH)])
  obtain ⟨dw,XS⟩:=aG.XQ BN;refine Fin.bs I C aJ XS ⟨rfl,_,rfl,?_⟩;rw [aD];refine cG.h2 (e':=⟨e.sp,e.b,xt,e.bu⟩) C af ((aE.ask hw ab).mono af) ?_;rw [Od];exact cG.bu e ba
 have au:j<f.path.length:=by simpa using au
 obtain ⟨bu,ay,c8⟩:=b8 (f:=fun i=>ag.int .i64 i) au;have k6:f.path.getD j 0=bu:=by rw [d7,ay];rfl
 have xB:=cG.bu e ba;have kP:=XL f.arg f.path j bu ay af;have nO:=aE.bp;refine ae.mG I (kX cH (bx f.arg (f.path.take j)) S mb pre e post e.b (S e.sp) e.on e.bu) (aG.iA (am1.cons _ (Ev S mb pre e post))) (fun aE=>?_);revert aE
 repeat clear I
 intro I;unfold kX kV at I ⊢;refine cC I ?_;intro I;refine aa.bX rfl rfl rfl rfl rfl (XI e.bu (S e.sp).bp bu xB af) I (aG.jH (aG.all _)).there.there.there ?_ (fun _ _ ⟨h,_⟩ _=>by cases h);rintro _ _ ⟨⟨⟩,rfl⟩ I;refine aa.mG I (kX cH (bx f.arg (f.path.take j)) S mb pre e post e.b (S e.sp) e.on e.bu) (aG.iA ((an5 (l₁:=jU e.bu (S e.sp).bp)).trans (.cons _ ((an5 (l₁:=jU e.bu (S e.sp).bp)).trans (.cons _ ((an5 (l₁:=jU e.bu (S e.sp).bp)).trans (.refl _))))))) (fun aE=>?_);revert aE
 repeat clear I
 intro I;refine aa.run ah C (aa.nil ?_);refine b0 ?_;refine ae.wS (σ:=rN) (fun _=>[(0,ib w mb),(3,.bw (qy (f,neg)) 0),(4,.ptr cH 0),(5,.ptr e.b 0),(7,.int .i64 bu),(29,.aA 1 (f.path.map fun i => .int .i64 i) .bb),(30,.int .i64 ((f.path.map fun i=>ag.int .i64 i).length:Int)),(31,.int .i64 (j:Int))]) (fun od=>kX cH (bx f.arg (f.path.take j)) S mb pre e post e.b ((S e.sp).slot bu) e.on od) (fun od=>sH od (nx bu (S e.sp).bp)) ?_ ?_
 ·cases aB:(S e.sp).bp.contains bu with
  | true=>
   have aR:nx bu (S e.sp).bp=(S e.sp).bp:=by unfold nx;rw [g6 aB]
   unfold kX dv.slot at *;rw [aR];refine j8 ?_;exact k8.mk e.bu I xB (cl C) (by simp only [aR];exact aG.all _)
  | false=>
   have aR:nx bu (S e.sp).bp=((S e.sp).bp++[bu]).mergeSort (fun a b=>decide (a≤b)):=by unfold nx;rw [f0 (by rw [aB];simp)]
   have sI:(nx bu (S e.sp).bp).length=(S e.sp).bp.length+1:=by rw [aR,as9];simp
   rcases cR:e.bu with _|⟨g,cap,eg⟩
   ·have bq:(S e.sp).bp=[]:=by rw [cR] at xB;exact xB
    rw [bq] at aR sI;unfold kX kV dv.slot at *;rw [cR] at I;rw [bq] at I ⊢;refine cC I ?_;intro I;refine aa.DJ ah I C C C C C C C di C C C C C C C (by show 1*8≤_;omega) (fun aY cg cs' U ad al I=>?_)
    obtain ⟨eg,rfl⟩:∃ eg,cs'=[bu].map a8++eg:=⟨cs'.drop 1,by
     have:=ai9 1 cs'
     rw [al] at this
     exact this.symm⟩
    refine cC I ?_;intro I;refine aa.bX rfl rfl rfl rfl rfl (Ii aY cg [bu] eg ba) I (.cons aW .nil) ?_ (fun _ _ ⟨h,_⟩ _=>by cases h);rintro _ _ ⟨⟨⟩,rfl⟩ I;refine gr ?_;exact k8.mk (some (aY,cg,eg)) I (by show (nx bu []).length+eg.length=cg;rw [sI];simp at U ⊢;omega) (cl C) (by simp only [lk,jU,sI];rw [aR];exact Em)
   ·rw [cR] at xB
    have xB:(S e.sp).bp.length+eg.length=cap:=xB;unfold kX kV dv.slot at *;rw [cR] at I;simp only [jU,aa',d8] at I ⊢;refine cC I ?_;intro I;refine aa.DK ah I C C C C C C C di C C C C aW cV af Ig C C C (by show _*8≤_;omega) af (fun aY cg cs' U ad al I=>?_)
    obtain ⟨nz,rfl⟩:∃ nz,cs'=((S e.sp).bp++[bu]).map a8++nz:=⟨cs'.drop ((S e.sp).bp.length+1),by
     have:=ai9 ((S e.sp).bp.length+1) cs'
     rw [aq3 ba] at al
     rw [al] at this
     rw [ad']
     exact this.symm⟩
    refine cC I ?_;intro I;have Ex:=Ii aY cg ((S e.sp).bp++[bu]) nz cV;rw [f6,ag8] at Ex;refine aa.bX rfl rfl rfl rfl rfl Ex I (.cons aW .nil) ?_ (fun _ _ ⟨h,_⟩ _=>by cases h);rintro _ _ ⟨⟨⟩,rfl⟩ I;refine gr ?_;exact k8.mk (some (aY,cg,nz)) I (by show (nx bu _).length+nz.length=cg;rw [sI];simp at U ⊢;omega) (cl C) (by simp only [lk,jU,sI];rw [aR];exact Em)
 rintro od xu I;have jr:=cG.h2 (e':=⟨e.sp,e.b,e.on,od⟩) C (aB2 (n+j)) (aE.slot bu) xu;have IF:=NU w mb _ _ _ jr f.arg ((f.path.take (j+1)).length:Int) ((f.path.take (j+1)).getD 0 0) ((f.path.take (j+1)).getD 1 0);generalize Of:S.h2 e.sp ((S e.sp).slot bu)=sO at IF jr;unfold ib at IF;unfold kX kV at I ⊢;unfold ib;unfold iM at kP;refine cC I ?_;intro I;refine aa.mG I (((bN.own cH,dH.box 319 ((bx f.arg (f.path.take (j+1))).map (ag.int .i64))):bN×dH)::mh sO mb (pre++⟨e.sp,e.b,e.on,od⟩::post)) (aG.iA (by rw [← Of];exact Ew (mb:=mb) (bS:=cH) (sp:=bx f.arg (f.path.take (j+1))) cG ((S e.sp).slot bu) e.on od)) (fun aE=>?_);revert aE
 repeat clear I
 intro I;refine aa.bX rfl rfl rfl rfl rfl IF I (aG.all _).there ?_ (fun _ _ ⟨_,_,_,_,h,_⟩ _=>by cases h);rintro _ _ ⟨zh,bU,zi,Og,⟨⟩,rfl,vp⟩ I;refine aa.run ah C (aa.nil ?_);refine b0 ?_;refine ae.mG I (kX cH (bx f.arg (f.path.take (j+1))) sO mb zh bU zi bU.b (sO bU.sp) bU.on bU.bu) (aG.iA (Oc cH (bx f.arg (f.path.take (j+1))) sO mb zh bU zi)) (fun aE=>?_);revert aE
 repeat clear I
 intro I;have wN:hb neg f.arg f.path (j+1) σ=sO.h2 bU.sp ((sO bU.sp).need neg):=by
  rw [hb]
  try simp only
  rw [ck,k6,← dn,Of];have:bx f.arg (f.path.take (j+1))=bU.sp:=Og.symm;rw [this]
 have BN:(kX cH (bx f.arg (f.path.take (j+1))) sO mb zh bU zi bU.b ((sO bU.sp).need neg) bU.on bU.bu).Perm (((bN.own cH,dH.box 319 ((bx f.arg (f.path.take (j+1))).map (ag.int .i64))):bN×dH)::mh (hb neg f.arg f.path (j+1) σ) mb (zh++bU::zi)):=by
  rw [wN];exact Ew (mb:=mb) (bS:=cH) (sp:=bx f.arg (f.path.take (j+1))) vp ((sO bU.sp).need neg) bU.on bU.bu
 have XT:pW (n+(j+1)) (hb neg f.arg f.path (j+1) σ) (zh++bU::zi):=by
  have:=vp.h2 (e':=bU) C (g8 _) ((vp.mU bU.sp).need neg) (vp.bu bU ba);rw [← wN] at this;exact this
 unfold kX kV dv.need at BN;unfold kX kV at I ⊢;cases e7:(sO bU.sp).gC<;>rw [e7] at I BN<;>cases neg
 all_goals
  refine hD I ?_;intro I;exact bn.mk (j+1,zh,bU,zi) I ⟨au,Og,XT⟩ cj (aG.XK Em BN) (by show f.path.length-(j+1)<f.path.length-j;omega)
section
variable {P:Program} {Γ:cA} {N:Nat} {env:Env} {s:ao} {ops:Array Oper} {rest:List Oper} {Q:b9→Env→ao→Prop} {L R:a'}
theorem dI.IG {B:fV} {ro:Option Nat} {a:Act} {w:World} {p:bV} (h:dI N B ro env s a w p) {kb b n cap i:Nat} {T xC:TypeId} {cells cs:List ag} (cJ:kb≠b) (kc:s kb=some (.box T cells)) (aB:cells[i]? = some (ee b n cap)) (ar:s b=some (.box xC cs)) (cy:cs.length=cap) (az:n≤cap) (hm:n≤9223372036854775807)
  (hJ:(cs.take n).all fe=true):∃ bj,dI N B ro env ((s.del b).set kb (.box T (cells.set i (.aA 1 (cs.take n) .bb)))) a w bj∧dg w p w bj∧Kept s ((s.del b).set kb (.box T (cells.set i (.aA 1 (cs.take n) .bb)))) w p w bj:=by
 obtain ⟨vs,U,ad,al⟩:=h.wf.obj _ _ ar;have au:b<w.heap.size:=(i9.1 U).1;have hle:dg w p w (p.ei b True):=⟨rfl,rfl,rfl,g8 _,fun _ _ h => .inl h,fun _ _ _=>rfl,fun _ _ h=>h⟩;have cR:∀ v,Rel w p v (ee b n cap)→Rel w (p.ei b True) v (.aA 1 (cs.take n) .bb):=by
  intro v aD;cases aD;have hr:=ad.take n;have wX:=q6 hr hJ;have kA:=tD wX;refine .aA b 0 n cap 1 (vs.toList.take n) (cs.take n) .bb ba yi ?_ (hr.mono hle) (fun v aw=>by rw [AO (wX v aw)];rfl) hm az (fun h=>by cases h) (fun b h=>by cases h);rw [kA];intro i v aR;refine ⟨.inr ⟨rfl,trivial⟩,?_⟩;rw [af5,jO U];rw [ai4] at aR;split at aR
  ·simpa using aR
  ·cases aR
 have aE:Kept s ((s.del b).set kb (.box T (cells.set i (.aA 1 (cs.take n) .bb)))) w p w (p.ei b True):=⟨fun _ _ _=>rfl,fun aY an gi=>by
  have bf:aY≠kb:=fun e=>by subst e;rw [kc] at gi;cases gi
  rw [ao.fG _ _ bf]
  by_cases e:aY=b
  ·subst e;exact ao.nN _ _
  ·rw [ao.m3 _ e];exact gi,fun aY o an gi aF=>by
   rcases aF with aF|⟨rfl,_⟩
   ·exact aF
   ·rw [ar] at gi;cases gi⟩
 have cf:dx w (p.ei b True) ((s.del b).set kb (.box T (cells.set i (.aA 1 (cs.take n) .bb)))):=by
  refine ⟨fun aY o an=>?_,fun aY o aF=>by rcases aF with aF|⟨rfl,_⟩;exact h.wf.lt _ _ aF;exact au⟩;have fg:aY≠b→∀ o,p.ei b True aY o↔p aY o:=fun e o=>⟨fun aF=>by rcases aF with aF|⟨e',_⟩;exact aF;exact absurd e' e,.inl⟩
  by_cases ji:aY=kb
  ·subst ji
   rw [ao.gn] at an;cases an;obtain ⟨us,g1,g2,g3⟩:=h.wf.obj _ _ kc;obtain ⟨v,uM,m7⟩:=g2.get aB;have bE:=(g2.mono hle).set i (cR v m7);have hf:us.toList.set i v=us.toList:=by
    apply aq6;intro k;rw [au6];split
    ·rename_i e;subst e
     split
     ·rw [uM]
     ·rename_i au;rw [am5 af]
    ·rfl
   rw [hf] at bE;exact ⟨us,g1,bE,fun o aF=>g3 o ((fg cJ o).1 aF)⟩
  rw [ao.fG _ _ ji] at an;by_cases e:aY=b
  ·subst e;rw [ao.nN] at an;cases an
  ·rw [ao.m3 _ e] at an
   have ai:=h.wf.obj aY o an;have fg:=fg e;cases o with
   | box t c=>obtain ⟨us,g1,g2,g3⟩:=ai;exact ⟨us,g1,g2.mono hle,fun o aF=>g3 o ((fg o).1 aF)⟩
   | row t sz n=>obtain ⟨cur,g1,g2,g3,g4⟩:=ai;exact ⟨cur,g1,g2,g3,fun o=>(fg o).trans (g4 o)⟩
   | map es=>obtain ⟨cQ,c,g1,g2,g3⟩:=ai;exact ⟨cQ,c,g1,⟨g2.1.mono hle,g2.2.mono hle⟩,g3⟩
   | lz es it l c=>exact ai.q1 hle C C
   | tick m=>exact ai
   | loop r env=>exact ⟨ai.1,fun t v h=>(ai.2 t v h).mono hle⟩
 exact ⟨_,h.step hle aE cf,hle,aE⟩
theorem Oh {kb b:Nat} {o o' o'':dH} {dw:a'} (I:Ok s L) (U:bo L (.own kb) o R) (ad:bo R (.own b) o' dw):kb≠b∧aS s L kb=some o∧aS s L b=some o'∧((aS s L).del b).set kb o''=aS s ((.own kb,o'')::dw)∧Ok s ((.own kb,o'')::dw):=by
 obtain ⟨b2,cE⟩:=U.perm I;have Oi:gone (aS s R) (.own kb)∧Ok s R:=cE;obtain ⟨bU,dq⟩:=ad.perm Oi.2;have Oj:gone (aS s dw) (.own b)∧Ok s dw:=dq;have e1:aS s L=((aS s dw).set b o').set kb o:=by rw [b2];show l4 (aS s R) (.own kb) o=_;rw [bU];rfl
 have kc:aS s R kb=none:=Oi.1;rw [bU] at kc;have Ey:((aS s dw).set b o') kb=none:=kc;have cJ:kb≠b:=fun e=>by subst e;rw [ao.gn] at Ey;cases Ey
 rw [ao.fG _ _ cJ] at Ey;have an:aS s dw b=none:=Oj.1;refine ⟨cJ,U.get I,?_,?_,Ey,Oj.2⟩
 ·rw [e1,ao.fG _ _ (fun e=>cJ e.symm),ao.gn]
 ·funext x
  show ((aS s L).del b).set kb o'' x=((aS s dw).set kb o'') x;by_cases ab:x=kb
  ·subst ab;rw [ao.gn,ao.gn]
  ·rw [ao.fG _ _ ab,ao.fG _ _ ab]
   by_cases IH:x=b
   ·subst IH;rw [ao.nN,an]
   ·rw [ao.m3 _ IH,e1,ao.fG _ _ ab,ao.fG _ _ IH]
theorem ae.IG {c:Code} (I:Ok s L) {kb b n cap:Nat} (i:Nat) {T xC:TypeId} {cells cs:List ag} {dw:a'} (U:bo L (.own kb) (.box T cells) R) (ad:bo R (.own b) (.box xC cs) dw) (aB:cells[i]? = some (ee b n cap)) (cy:cs.length=cap) (az:n≤cap) (hm:n≤9223372036854775807) (hJ:(cs.take n).all fe=true)
  (h:Ok s ((.own kb,.box T (cells.set i (.aA 1 (cs.take n) .bb)))::dw)→ae P N c Q env (aS s ((.own kb,.box T (cells.set i (.aA 1 (cs.take n) .bb)))::dw))):ae P N c Q env (aS s L):=by
 obtain ⟨g1,g2,g3,g4,g5⟩:=Oh (o'' := .box T (cells.set i (.aA 1 (cs.take n) .bb))) I U ad;intro tH B a w p e4 aI;obtain ⟨bj,al,bf,bE⟩:=aI.IG g1 g2 aB g3 cy az hm hJ;rw [g4] at al bE;exact mq (h g5 tH B a w bj e4 al) fun _ _ _ q=>q.after bf bE
end
abbrev lp:=List Int×Nat
def iu (σ:d') (e:lp):bN×dH:=(.own e.2,.box 340 (kV (σ e.1) (.aA 1 ((σ e.1).e6.map a8) .bb) (.aA 1 ((σ e.1).bp.map a8) .bb)))
def o1 (es:List lp):SMap:=es.map fun e=>(e.1,.ptr e.2 0)
def mV (σ:d') (mb:Nat) (es:List lp):a':=rM mb (o1 es)::es.map (iu σ)
theorem ae.Ol {P:Program} {N:Nat} {Q:b9→Env→ao→Prop} {env:Env} {s:ao} {c:Code} (σ:d'):∀ (es:List gd) (A:a'),(∀ e∈es,sH e.bu (σ e.sp).bp∧(σ e.sp).bp.length<bC)→Ok s (A++es.flatMap (iN σ)) →
    (Ok s (A++es.map fun e=>iu σ (e.sp,e.b))→ae P N c Q env (aS s (A++es.map fun e=>iu σ (e.sp,e.b))))→ae P N c Q env (aS s (A++es.flatMap (iN σ)))
  | [],A,_,I,h=>h I
  | e::es,A,ar,I,h=>by
    have an:=bD;obtain ⟨jR,jk⟩:=ar e i6;have XU:Ok s ((A++[iu σ (e.sp,e.b)])++es.flatMap (iN σ))→ae P N c Q env (aS s ((A++[iu σ (e.sp,e.b)])++es.flatMap (iN σ))):=fun I=>by
      refine ae.Ol σ es (A++[iu σ (e.sp,e.b)]) (fun x ab=>ar x (i0 _ ab)) I ?_;intro I;rw [ah0] at I ⊢;exact h I
    have ma:Ok s (iu σ (e.sp,e.b)::(A++es.flatMap (iN σ)))→ae P N c Q env (aS s (iu σ (e.sp,e.b)::(A++es.flatMap (iN σ)))):=fun I=>by
      refine ae.mG I ((A++[iu σ (e.sp,e.b)])++es.flatMap (iN σ)) (aG.iA ?_) XU;rw [ah0];exact (an5 (l₁:=A)).symm
    rw [ak0] at I ⊢;refine ae.mG I (iN σ e++(A++es.flatMap (iN σ))) (aG.iA (aw2 _ _ _)) (fun aE=>?_);clear I;have lN:cU (kV (σ e.sp) (.aA 1 ((σ e.sp).e6.map a8) e.on) (.aA 1 ((σ e.sp).bp.map a8) .bb)) (kV (σ e.sp) (.aA 1 ((σ e.sp).e6.map a8) .bb) (.aA 1 ((σ e.sp).bp.map a8) .bb)) := .cons aJ (.cons aJ (.cons aQ.bb (cU.refl _)));unfold iN pU at aE ⊢;rcases cR:e.bu with _|⟨g,cap,eg⟩
    · rw [cR] at aE jR
      have bq:(σ e.sp).bp=[]:=jR;have XV:cU (kV (σ e.sp) (.aA 1 ((σ e.sp).e6.map a8) e.on) (lk none (σ e.sp).bp)) (kV (σ e.sp) (.aA 1 ((σ e.sp).e6.map a8) .bb) (.aA 1 ((σ e.sp).bp.map a8) .bb)):=by
        rw [bq];exact .cons aJ (.cons aJ (.cons aQ.bb (.cons aJ (.cons aJ (.cons aJ (.cons aJ (.one aQ.empty)))))))
      refine ae.wQ aE e.b _ .here XV (fun aE=>?_);refine ae.mG aE (iu σ (e.sp,e.b)::(A++es.flatMap (iN σ))) (.cons .here (aG.there (e:=(e.on,.row 3 1 (σ e.sp).e6.length)) (aG.all (A++es.flatMap (iN σ))))) ma
    · rw [cR] at aE jR
      have kE:(σ e.sp).bp.length+eg.length=cap:=jR;refine ae.IG aE 7 .here (.there .here) C cV af af Ig (fun aE=>?_);rw [aq3 ba] at aE ⊢;refine ae.wQ aE e.b _ .here lN (fun aE=>?_);refine ae.mG aE (iu σ (e.sp,e.b)::(A++es.flatMap (iN σ))) (.cons .here (aG.there (e:=(e.on,.row 3 1 (σ e.sp).e6.length)) (aG.all (A++es.flatMap (iN σ))))) ma
structure xD (n:Nat) (E:List lp) (σ:d') (es:List lp):Prop where
 four:∀ e∈es,e.1.length=4
 rest:∀ q,q∉es.map Prod.fst→σ q=je
 mU:∀ q,mT n (σ q)
 tA:∀ x∈E,x∈es
def XW (n:Nat) (σ:d') (mb:Nat) (v:ag) (o:eC) (K:a'):Prop:=o = .ret v∧∃ es,K=mV σ mb es∧xD n [] σ es
theorem XX (w:bz) (hw:w.ps.length≤60) (l:List ch) (aC:3*l.length+3<bC) (ab:∀ x∈l,tY w x) :
  bA d0 248 [gu w,qF l] [] (fun o K=>∃ mb,XW (3*l.length) (ev l) mb (ib w mb) o K):=by
 have an:=bD;refine bA.bh ah Tryz.func248 C C fun s I=>?_
 unfold gu fc;refine dt ?_;refine aa.sj I C C C C (fun mb I=>?_);refine bl ?_;refine ae.b5 [5,12,13] C I (σ:=Nat×List gd) (fun q=>[(14,.int .i64 (q.1:Int))]) (fun q=>mh (ev (l.take q.1)) mb q.2) (fun q=>q.1≤l.length∧pW (3*q.1) (ev (l.take q.1)) q.2) (fun q=>l.length-q.1) (0,[]) ⟨g7 _,⟨by simp,by simp,fun q _=>rfl,by simp,fun q=>Xm _⟩⟩ (cl C) (aG.all _) ?_;rintro ⟨j,es⟩ ⟨aL,cG⟩ I;simp only at aL cG I ⊢;refine b7 ?_;refine ae.cond C (fun au=>?_) (fun aV=>?_);rotate_left
 ·have aV:j=l.length:=by simp at aV;omega
  subst aV;rw [ae5] at cG I ⊢;refine ae.Ol (ev l) es [rM mb (ny es)] (fun e he=>⟨cG.bu e he,by have:=(cG.mU e.sp).bp;omega⟩) I (fun I=>?_);refine ez ?_;refine Fin.bs I C aJ (aG.all _) ⟨mb,rfl,es.map (fun e=>(e.sp,e.b)),?_,?_,?_,cG.mU,by simp⟩
  ·unfold mV o1 ny
   simp [List.map_map,Function.comp_def]
  ·intro e he
   obtain ⟨x,ab,rfl⟩:=af'.1 he;exact cG.four x ab
  ·intro q br
   refine cG.rest q (fun hm=>br ?_);obtain ⟨x,ab,rfl⟩:=af'.1 hm;exact af'.2 ⟨(x.sp,x.b),af'.2 ⟨x,ab,rfl⟩,rfl⟩
 have au:j<l.length:=by simpa using au
 obtain ⟨x,ay,c8⟩:=b8 (f:=h') au;have ar:ev (l.take (j+1))=addLit (ev (l.take j)) x:=by
  unfold ev;rw [il ay,ao0];rfl
 have a6:=XR w hw mb _ _ es cG af x (ab x (d5 ay));unfold ib gu fc at a6;unfold h' qy ak.cells at c8 a6
 repeat (first|(refine DD I ?_;clear I;intro I)|refine aa.eb ah I rfl rfl rfl rfl rfl rfl rfl (fun cH I=>?_))
 refine aa.bX rfl rfl rfl rfl rfl a6 I (aG.all _).there ?_ (fun _ _ ⟨h,_⟩ _=>by cases h);rintro _ _ ⟨⟨⟩,dF,rfl,jr⟩ I;refine fj ?_;refine bn.mk (j+1,dF) I ⟨au,?_⟩ cj (by show aG _ (mh (ev (l.take (j+1))) mb dF) _;rw [ar];exact aG.jH (aG.all _)) n4;rw [ar];exact jr
theorem XY {es:List lp} {sp:List Int}:(o1 es).find? (fun e=>e.1==sp)=none↔sp∉es.map Prod.fst:=by
 unfold o1;rw [aw3];constructor
 ·intro h hm
  obtain ⟨e,he,rfl⟩:=af'.1 hm;have:=h _ (af'.2 ⟨e,he,rfl⟩);simp at this
 ·intro h x ab
  obtain ⟨e,he,rfl⟩:=af'.1 ab;simp only [al6];intro bU;exact h (af'.2 ⟨e,he,bU⟩)
theorem XZ {es:List lp} {sp:List Int} {x:List Int×ag} (h:(o1 es).find? (fun e=>e.1==sp)=some x):∃ e∈es,e.1=sp∧x=(e.1,.ptr e.2 0):=by
 unfold o1 at h;have U:=at3 h;have ad:=ay0 h;obtain ⟨e,he,rfl⟩:=af'.1 U;exact ⟨e,he,by simpa using ad,rfl⟩
theorem xE (w:bz) (mb n:Nat) (σ:d') (es:List lp) {E:List lp} (cG:xD n E σ es) (hR ea dj dQ:Int) :
  bA d0 280 [ib w mb,iM [hR,ea,dj,dQ]] (mV σ mb es) (fun o K=>∃ b R,o = .ret (.ptr b 0)∧(∃ dF,(iu σ ([hR,ea,dj,dQ],b)::R).Perm (mV σ mb dF)∧xD n E σ dF∧([hR,ea,dj,dQ],b)∈dF)∧K=iu σ ([hR,ea,dj,dQ],b)::R):=by
 have h:=NN (.aA 1 [] .bb) (.aA 1 [] .bb) aQ.empty aQ.empty w mb (o1 es) (fun e he=>by
  unfold o1 at he
  obtain ⟨x,ab,rfl⟩:=af'.1 he
  exact cG.four x ab) hR ea dj dQ
 refine bA.frame h (R:=es.map (iu σ)) (.cons .here .nil) ?_;rintro o aO (⟨x,ab,rfl,rfl⟩|⟨a7,b,rfl,rfl⟩)
 ·obtain ⟨⟨sp,b⟩,he,U,rfl⟩:=XZ ab
  simp only at U;subst U;obtain ⟨pre,post,rfl⟩:=au2 he;have aF:((rM mb (o1 (pre++([hR,ea,dj,dQ],b)::post)))::(pre++([hR,ea,dj,dQ],b)::post).map (iu σ)).Perm (iu σ ([hR,ea,dj,dQ],b)::(rM mb (o1 (pre++([hR,ea,dj,dQ],b)::post))::(pre.map (iu σ)++post.map (iu σ)))):=by
   rw [ad',ae3];exact ((an5).cons _).trans (am1.swap _ _ _)
  exact ⟨[],_,by simp,aF,b,_,rfl,⟨_,aF.symm,cG,by simp⟩,rfl⟩
 ·have kg:=XY.1 a7
  have Br:=cG.rest _ kg;have b2:iu σ ([hR,ea,dj,dQ],b)=(.own b,.box 340 (kV je (.aA 1 [] .bb) (.aA 1 [] .bb))):=by
   unfold iu;simp only [Br];rfl
  refine ⟨[],iu σ ([hR,ea,dj,dQ],b)::(rM mb (o1 (es++[([hR,ea,dj,dQ],b)]))::es.map (iu σ)),by simp,?_,b,_,rfl,⟨es++[([hR,ea,dj,dQ],b)],?_,?_,by simp⟩,rfl⟩
  ·rw [b2]
   have bU:o1 (es++[([hR,ea,dj,dQ],b)])=o1 es++[([hR,ea,dj,dQ],.ptr b 0)]:=by unfold o1;rw [ad'];rfl
   rw [bU];exact am1.swap _ _ _
  ·unfold mV
   rw [ad'];refine (am1.swap _ _ _).trans (am1.cons _ ?_);exact as8 (l₁:=[iu σ ([hR,ea,dj,dQ],b)])
  ·refine ⟨fun e he=>?_,fun q br=>cG.rest q (fun hm=>br (by rw [ad'];exact aj0 _ hm)),cG.mU,fun x ab=>aj0 _ (cG.tA x ab)⟩
   rcases ae'.1 he with he|he
   ·exact cG.four e he
   ·rw [H1] at he;subst he;rfl
theorem X0 (fv:ag) (q:Int→Bool) (aej:a'→Prop) (xs:List Int) (aC:xs.length<bC) (h:∀ x∈xs,∀ K,aej K→dA d0 fv [a8 x] K (fun o aO=>o = .ret (.bool (q x))∧aej aO)) (K:a') (aq:aej K) :
  bA d0 90 [.aA 1 (xs.map a8) .bb,fv] K (fun o aO=>o = .ret (.int .i64 (match xs.findIdx? q with|some i=>(i:Int)|none => -1))∧aej aO):=by
 have an:=bD;refine bA.bh ah Tryz.func90 C C fun s I=>?_
 refine fP ?_;refine ae.b5 [0,1,7] C I (σ:=Nat×a') (fun j=>[(8,.int .i64 (j.1:Int))]) (fun j=>j.2) (fun j=>j.1≤xs.length∧aej j.2∧∀ i y,i<j.1→xs[i]? = some y→q y=false) (fun j=>xs.length-j.1) (0,K) ⟨g7 _,aq,fun i y aR=>absurd aR (an2 _)⟩ (cl C) (aG.all _) ?_;rintro ⟨j,BO⟩ ⟨aL,II,cO⟩ I;simp only at aL II cO I ⊢;refine b7 ?_;refine ae.cond C (fun au=>?_) (fun aV=>?_)
 ·have au:j<xs.length:=by simpa using au
  obtain ⟨x,ab,bL⟩:=b8 (f:=a8) au;have aw:=h x (d5 ab) BO II;unfold a8 at bL aw;refine bl ?_;refine aa.gM rfl rfl rfl rfl rfl rfl aw I (aG.all _) ?_ (fun _ _ ⟨h,_⟩ _=>by cases h);rintro _ iO ⟨⟨⟩,kT⟩ I;rw [d6] at I ⊢;cases br:q x with
  | true=>
   rw [Mu q xs j x ab br cO];refine bl ?_;exact Fin.bs I C aJ (aG.all _) ⟨rfl,kT⟩
  | false=>
   refine bl ?_
   exact bn.mk (j+1,iO) I ⟨au,kT,fun i y aR ay=>by
    rcases ah5.1 aR with aR|rfl
    ·exact cO i y aR ay
    ·rw [ab] at ay;cases ay;exact br⟩ cj (aG.all _) sl
 ·have aV:j=xs.length:=by simp at aV;omega
  subst aV;rw [Mv q xs (fun i y ay=>cO i y (qs ay) ay)];refine ez ?_;exact Fin.bs I C aJ (aG.all _) ⟨rfl,II⟩
theorem X1 {α:Type} (q:α→Bool) (l:List α):decide ((match l.findIdx? q with|some i=>(i:Int)|none => -1)≥0)=l.any q:=by
 cases h:l.findIdx? q with
 | none=>
  rw [ai2] at h;have:l.any q=false:=by rw [ak'];intro x ab;rw [h x ab];simp
  rw [this];rfl
 | some i=>
  rw [ah3] at h;obtain ⟨aR,U,_⟩:=h;have:l.any q=true:=ag4.2 ⟨_,an6 aR,U⟩;rw [this];simp
theorem X2 (fv:ag) (q:Int→Bool) (aej:a'→Prop) (xs:List Int) (aC:xs.length<bC) (h:∀ x∈xs,∀ K,aej K→dA d0 fv [a8 x] K (fun o aO=>o = .ret (.bool (q x))∧aej aO)) (K:a') (aq:aej K) :
  bA d0 40 [.aA 1 (xs.map a8) .bb,fv] K (fun o aO=>o = .ret (.bool (xs.any q))∧aej aO):=by
 rw [← X1];have aB:=X0 fv q aej xs aC h K aq;refine bA.bh ah Tryz.func40 C C fun s I=>?_
 refine dt ?_;refine aa.bX rfl rfl rfl rfl rfl aB I (aG.all _) ?_ (fun _ _ ⟨h,_⟩ _=>by cases h);rintro _ iO ⟨⟨⟩,kT⟩ I;rw [d6] at I ⊢;refine er ?_;exact Fin.bs I C aJ (aG.all _) ⟨rfl,kT⟩
theorem X3 (f:FuncId) (iy hB:List ag) (q:Int→Bool) (aej:a'→Prop) (xs:List Int) (aC:xs.length<bC) (h:∀ x∈xs,∀ K,aej K→dA d0 (.func f iy hB) [a8 x] K (fun o aO=>o = .ret (.bool (q x))∧aej aO)) (K:a') (aq:aej K) :
  bA d0 198 [.aA 1 (xs.map a8) .bb,.func f iy hB] K (fun o aO=>o = .ret (.bool (xs.all q))∧aej aO):=by
 have U:∀ x∈xs,∀ K,aej K→dA d0 (.func 233 [] [.bw [.func f iy hB] 0]) [a8 x] K (fun o aO=>o = .ret (.bool (!q x))∧aej aO):=fun x ab K bk=>by
  refine dA.fx (first:=[]) (cap:=[.bw [.func f iy hB] 0]) ?_;refine bA.bh ah Tryz.func233 C C fun s I=>?_
  have aw:=h x ab K bk;unfold a8 at aw ⊢;refine dt ?_;refine aa.gM rfl rfl rfl rfl rfl rfl aw I (aG.all _) ?_ (fun _ _ ⟨h,_⟩ _=>by cases h);rintro _ iO ⟨⟨⟩,kT⟩ I;rw [d6] at I ⊢;refine er ?_;exact Fin.bs I C aJ (aG.all _) ⟨rfl,kT⟩
 rw [← Bj];have aB:=X2 _ (fun x => !q x) aej xs aC U K aq;refine bA.bh ah Tryz.func198 C C fun s I=>?_
 refine dt ?_;refine aa.bX rfl rfl rfl rfl rfl aB I (aG.all _) ?_ (fun _ _ ⟨h,_⟩ _=>by cases h);rintro _ iO ⟨⟨⟩,kT⟩ I;rw [d6] at I ⊢;refine er ?_;exact Fin.bs I C aJ (aG.all _) ⟨rfl,kT⟩
theorem Om (arg:Int) (path:List Int) (bu:Int) (h:path.length<2):aT d0 281 [iM (bx arg path),.int .i64 bu] (iM (bx arg (path++[bu]))):=by
 match path,h with
 | [],_=>exact NO arg 0 0 bu
 | [a],_=>exact NP arg a 0 bu
structure vq (n:Nat) (σ:d'):Prop where
 deep:∀ arg path,2≤path.length→(σ (bx arg path)).bp=[]
 mU:∀ q,mT n (σ q)
def mj (n:Nat) (E:List lp) (σ:d') (mb:Nat) (K:a'):Prop:=∃ es,K=mV σ mb es∧xD n E σ es
def BP (σ:d') (arg:Int) (path:List Int):Bool:=(σ (bx arg path)).bp.all fun s => !(σ (bx arg (path++[s]))).gC
theorem X4 (w:bz) (mb n:Nat) (σ:d') (arg:Int) (path:List Int) (aF:path.length<2) (bu:Int) {E:List lp} (K:a') (bk:mj n E σ mb K) :
  dA d0 (.func 315 [] [.bw [ib w mb] 0,.bw ((bx arg path).map (ag.int .i64)) 0]) [a8 bu] K (fun o aO=>o = .ret (.bool (!(σ (bx arg (path++[bu]))).gC))∧mj n E σ mb aO):=by
 obtain ⟨es,rfl,cG⟩:=bk;have U:=Om arg path bu aF;have ad:=xE w mb n σ es cG arg ((path++[bu]).length:Int) ((path++[bu]).getD 0 0) ((path++[bu]).getD 1 0);refine dA.fx (first:=[]) (cap:=[.bw [ib w mb] 0,.bw ((bx arg path).map (ag.int .i64)) 0]) ?_;refine bA.bh ah Tryz.func315 C C fun s I=>?_
 unfold ib at *;unfold iM kx at U;refine oG ?_;refine aK.kS rfl rfl rfl rfl rfl rfl ad I (aG.all _) ?_ (fun _ _ ⟨_,_,h,_⟩ _=>by cases h);rintro _ _ ⟨b,R,⟨⟩,⟨dF,fg,jr,fH⟩,rfl⟩ I;rw [d6] at I ⊢;refine cC I ?_;intro I;exact Fin.bs I C aJ (aG.iA fg) ⟨rfl,dF,rfl,jr⟩
theorem X5 (w:bz) (mb n:Nat) (az:n<bC) (σ:d') (ck:vq n σ) (arg:Int) (path:List Int) (aF:path.length≤2) {E:List lp} (K:a') (bk:mj n E σ mb K) :
    bA d0 305 [ib w mb,iM (bx arg path)] K (fun o aO=>o = .ret (.bool (BP σ arg path))∧mj n E σ mb aO):=by
  obtain ⟨es,rfl,cG⟩:=bk;have ad:=xE w mb n σ es cG arg (path.length:Int) (path.getD 0 0) (path.getD 1 0);have lF:=(ck.mU (bx arg path)).bp
  have al:=X3 315 [] [.bw [ib w mb] 0,.bw ((bx arg path).map (ag.int .i64)) 0] (fun s => !(σ (bx arg (path++[s]))).gC) (mj n E σ mb) (σ (bx arg path)).bp af (fun x ab K bk=>by
    have ih:path.length<2:=by
      rcases aq' path.length 2 with h|h
      · exact h
      · rw [ck.deep arg path h] at ab;cases ab
    exact X4 w mb n σ arg path ih x K bk)
  refine bA.bh ah Tryz.func305 C C fun s I=>?_
  unfold ib at *;unfold iM kx at *;refine dt ?_;refine aa.bX rfl rfl rfl rfl rfl ad I (aG.all _) ?_ (fun _ _ ⟨_,_,h,_⟩ _=>by cases h);rintro _ _ ⟨b,R,⟨⟩,⟨dF,fg,jr,fH⟩,rfl⟩ I;rw [d6] at I ⊢;unfold iu at I ⊢;refine cC I ?_;intro I;refine aa.mG I (mV σ mb dF) (aG.iA fg) (fun I=>?_);refine aa.bX rfl rfl rfl rfl rfl (al _ ⟨dF,rfl,jr⟩) I (aG.all _) ?_ (fun _ _ ⟨h,_⟩ _=>by cases h);rintro _ iO ⟨⟨⟩,o2⟩ I;rw [d6] at I ⊢;refine er ?_;exact Fin.bs I C aJ (aG.all _) ⟨rfl,o2⟩
def vr (σ:d') (arg:Int) (path:List Int) (c:Nat):Bool:=
 decide (k9 (σ (bx arg path)).gb (1|||2^c)=0)&&(decide ((σ (bx arg path)).no &&& (1|||2^c)=0)&&BP σ arg path)
theorem BQ (m:Nat):(((m:Nat):Int)==0)=decide (m=0):=by
 rw [af7,al6,i8];omega
theorem On (w:bz) (mb n:Nat) (az:n<bC) (σ:d') (ck:vq n σ) (arg:Int) (path:List Int) (aF:path.length≤2) (c:Nat) (aB:c<3) {E:List lp} (K:a') (bk:mj n E σ mb K) :
  bA d0 291 [ib w mb,iM (bx arg path),.int .i64 (c:Int)] K (fun o aO=>o = .ret (.bool (vr σ arg path c))∧mj n E σ mb aO):=by
 obtain ⟨es,rfl,cG⟩:=bk;have ad:=xE w mb n σ es cG arg (path.length:Int) (path.getD 0 0) (path.getD 1 0);have lF:=ck.mU (bx arg path);have U:=HT c af;have kF:1|||2^c<2^64:=aj4 du (ai' af af)
 have al:=fun K bk=>X5 (E:=E) w mb n az σ ck arg path aF K bk
 have hm:vr σ arg path c=(decide (k9 (σ (bx arg path)).gb (1|||2^c)=0)&&(decide ((σ (bx arg path)).no &&& (1|||2^c)=0)&&BP σ arg path)):=rfl;refine bA.bh ah Tryz.func291 C C fun s I=>?_
 unfold ib at *;unfold iM kx at *;refine dt ?_;refine aa.bX rfl rfl rfl rfl rfl ad I (aG.all _) ?_ (fun _ _ ⟨_,_,h,_⟩ _=>by cases h);rintro _ _ ⟨b,R,⟨⟩,⟨dF,fg,jr,fH⟩,rfl⟩ I;rw [d6] at I ⊢;unfold iu at I ⊢;refine cC I ?_;intro I;refine aa.bits ((k9 (σ (bx arg path)).gb (1|||2^c):Nat):Int) C C C C C C (DO lF.gb kF) ?_;refine dU ?_;cases mf:decide (k9 (σ (bx arg path)).gb (1|||2^c)=0) with
 | false=>
  refine aa.dh 21 C (by rw [BQ];exact mf) ?_;refine ed ?_;rw [mf,f9] at hm;exact Fin.bs I C aJ (aG.iA fg) ⟨by rw [hm],dF,rfl,jr⟩
 | true=>
  refine aa.dY 21 C (by rw [BQ];exact mf) ?_;refine cC I ?_;intro I;refine aa.bits (((σ (bx arg path)).no &&& (1|||2^c):Nat):Int) C C C C C C (u1 lF.no kF) ?_;refine dU ?_;cases j7:decide ((σ (bx arg path)).no &&& (1|||2^c)=0) with
  | false=>
   refine aa.dh 30 C (by rw [BQ];exact j7) ?_;refine ed ?_;rw [mf,j7,f5,f9] at hm;exact Fin.bs I C aJ (aG.iA fg) ⟨by rw [hm],dF,rfl,jr⟩
  | true=>
   refine aa.dY 30 C (by rw [BQ];exact j7) ?_;refine dU ?_;refine aa.mG I (mV σ mb dF) (aG.iA fg) (fun I=>?_);refine aa.bX rfl rfl rfl rfl rfl (al _ ⟨dF,rfl,jr⟩) I (aG.all _) ?_ (fun _ _ ⟨h,_⟩ _=>by cases h);rintro _ iO ⟨⟨⟩,o2⟩ I;rw [d6] at I ⊢;refine er ?_;rw [mf,j7,f5,f5] at hm;exact Fin.bs I C aJ (aG.all _) ⟨by rw [hm],o2⟩
def xF (σ:d') (arg:Int) (path:List Int):Bool := !(σ (bx arg path)).whole&&vr σ arg path 2
theorem X6 (w:bz) (mb n:Nat) (az:n<bC) (σ:d') (ck:vq n σ) (arg:Int) (path:List Int) (aF:path.length≤2) {E:List lp} (K:a') (bk:mj n E σ mb K) :
  bA d0 284 [ib w mb,iM (bx arg path)] K (fun o aO=>o = .ret (.bool (xF σ arg path))∧mj n E σ mb aO):=by
 obtain ⟨es,rfl,cG⟩:=bk;have ad:=xE w mb n σ es cG arg (path.length:Int) (path.getD 0 0) (path.getD 1 0);have al:=fun K bk=>On (E:=E) w mb n az σ ck arg path aF 2 af K bk
 have hm:xF σ arg path=(!(σ (bx arg path)).whole&&vr σ arg path 2):=rfl;refine bA.bh ah Tryz.func284 C C fun s I=>?_
 unfold ib at *;unfold iM kx at *;refine dt ?_;refine aa.bX rfl rfl rfl rfl rfl ad I (aG.all _) ?_ (fun _ _ ⟨_,_,h,_⟩ _=>by cases h);rintro _ _ ⟨b,R,⟨⟩,⟨dF,fg,jr,fH⟩,rfl⟩ I;rw [d6] at I ⊢;unfold iu at I ⊢;refine cC I ?_;intro I;cases hw:(σ (bx arg path)).whole with
 | true=>
  refine aa.dh 12 C (by show (!(σ (bx arg path)).whole)=false;rw [hw];rfl) ?_;refine ed ?_;rw [hw] at hm;exact Fin.bs I C aJ (aG.iA fg) ⟨by rw [hm];rfl,dF,rfl,jr⟩
 | false=>
  refine aa.dY 12 C (by show (!(σ (bx arg path)).whole)=true;rw [hw];rfl) ?_;refine dU ?_;refine aa.mG I (mV σ mb dF) (aG.iA fg) (fun I=>?_);refine aa.bX rfl rfl rfl rfl rfl (al _ ⟨dF,rfl,jr⟩) I (aG.all _) ?_ (fun _ _ ⟨h,_⟩ _=>by cases h);rintro _ iO ⟨⟨⟩,o2⟩ I;rw [d6] at I ⊢;refine er ?_;rw [hw] at hm;exact Fin.bs I C aJ (aG.all _) ⟨by rw [hm];rfl,o2⟩
def ml:Nat→Int→List Int→Int
 | 0,n,_=>n
 | k+1,n,l=>if l.contains n then ml k (n+1) l else n
def xG (k:dv):Int:=ml (k.e6.length+1) k.low k.e6
def xH (σ:d') (arg:Int) (path:List Int):Bool:=decide (xG (σ (bx arg path))≤(σ (bx arg path)).high)&&vr σ arg path 1
def o3 (n:Int) (l:List Int):Nat:=(l.filter fun x=>decide (x≥n)).length
theorem IJ (n:Int) (l:List Int):o3 n l≤l.length:=List.length_filter_le _ _
theorem Oo (n:Int):∀ l:List Int,o3 (n+1) l≤o3 n l
  | []=>g8 _
  | x::r=>by
    have a1:=Oo n r;unfold o3 at *;rw [ah9,ah9];by_cases U:x≥n+1
    · rw [g6 wU,g6 cV,g9,g9];omega
    · rw [f0 wU]
      split
      · rw [g9];omega
      · exact a1
theorem Ez {n:Int}:∀ {l:List Int},n∈l→o3 (n+1) l<o3 n l
  | x::r,h=>by
    have bq:=Oo n r;unfold o3 at *;rw [ah9,ah9];rcases af2.1 h with rfl|h
    · rw [f0 cV,g6 ba,g9];omega
    · have a1:=Ez h
      unfold o3 at a1;by_cases U:x≥n+1
      · rw [g6 wU,g6 cV,g9,g9];omega
      · rw [f0 wU]
        split
        · rw [g9];omega
        · exact a1
theorem EA:∀ (f ng:Nat) (n:Int) (l:List Int),o3 n l<f→o3 n l<ng→ml f n l=ml ng n l
  | f+1,ng+1,n,l,h,e3=>by
    rw [ml,ml];cases aB:l.contains n with
    | false=>rfl
    | true=>
      have:=Ez (n:=n) (l:=l) (by simpa using aB);simp only [ag7];exact EA f ng (n+1) l af af
theorem X7 (w:bz) (mb n:Nat) (az:n<bC) (σ:d') (ck:vq n σ) (arg:Int) (path:List Int) (aF:path.length≤2) {E:List lp} (K:a') (bk:mj n E σ mb K) :
  bA d0 283 [ib w mb,iM (bx arg path)] K (fun o aO=>o = .ret (.cw [.int .i64 (xG (σ (bx arg path))),.bool (xH σ arg path)])∧mj n E σ mb aO):=by
 have an:=bD;obtain ⟨es,rfl,cG⟩:=bk;have ad:=xE w mb n σ es cG arg (path.length:Int) (path.getD 0 0) (path.getD 1 0);have al:=fun K bk=>On (E:=E) w mb n az σ ck arg path aF 1 af K bk
 have hm:xH σ arg path=(decide (xG (σ (bx arg path))≤(σ (bx arg path)).high)&&vr σ arg path 1):=rfl;have lF:=ck.mU (bx arg path);have uO:=lF.e6;have oV:=lF.num;have X8:xG (σ (bx arg path))=ml (o3 (σ (bx arg path)).low (σ (bx arg path)).e6+1) (σ (bx arg path)).low (σ (bx arg path)).e6:=EA _ _ _ _ (by have:=IJ (σ (bx arg path)).low (σ (bx arg path)).e6;omega) af;have im:=fun v=>yT (σ (bx arg path)).e6 v af
 refine bA.bh ah Tryz.func283 C C fun s I=>?_
 unfold ib at *;unfold iM kx at *;refine dt ?_;refine aa.bX rfl rfl rfl rfl rfl ad I (aG.all _) ?_ (fun _ _ ⟨_,_,h,_⟩ _=>by cases h);rintro _ _ ⟨b,R,⟨⟩,⟨dF,fg,jr,fH⟩,rfl⟩ I;rw [d6] at I ⊢;unfold iu at I ⊢;refine cC I ?_;intro I;refine ae.b5 [0,3,6] C I (σ:=Int) (fun v=>[(7,.int .i64 v)]) (fun _=>iu σ ([arg,(path.length:Int),path.getD 0 0,path.getD 1 0],b)::R) (fun v=>xG (σ (bx arg path))=ml (o3 v (σ (bx arg path)).e6+1) v (σ (bx arg path)).e6∧(σ (bx arg path)).low≤v∧v≤(σ (bx arg path)).low+((σ (bx arg path)).e6.length-o3 v (σ (bx arg path)).e6:Nat)) (fun v=>o3 v (σ (bx arg path)).e6) (σ (bx arg path)).low ⟨X8,ak9 _,by omega⟩ (cl C) (aG.all _) ?_;rintro v ⟨aw,uM,m7⟩ I;unfold iu at I ⊢;have mi:=im v;unfold bd at mi;cases aB:(σ (bx arg path)).e6.contains v with
 | true=>
  rw [aB] at mi;have au:=Ez (n:=v) (l:=(σ (bx arg path)).e6) (by simpa using aB);have hle:=IJ v (σ (bx arg path)).e6;rw [ml,aB] at aw;simp only [ag7] at aw;have dm:t7 .i64 (v+1)=v+1:=dz af af;refine hD I ?_;intro I;refine bn.mk (v+1) I ⟨?_,by omega,by omega⟩ (by repeat (first|exact trivial|refine ⟨⟨_,rfl,aJ⟩,?_⟩|refine ⟨⟨_,rfl,aQ.of_eq (by (rw [dm]))⟩,?_⟩)) (aG.all _) au;rw [aw];exact EA _ _ _ _ af af
 | false=>
  rw [aB] at mi;rw [ml,aB] at aw;simp only [af8,ah'] at aw;subst aw;refine cC I ?_;intro I;cases ax:decide (xG (σ (bx arg path))≤(σ (bx arg path)).high) with
  | false=>
   refine aa.dh 33 C ax ?_;refine ed ?_;rw [ax] at hm;exact Fin.bs I C aJ (aG.iA fg) ⟨by rw [hm];rfl,dF,rfl,jr⟩
  | true=>
   refine aa.dY 33 C ax ?_;refine dU ?_;refine aa.mG I (mV σ mb dF) (aG.iA fg) (fun I=>?_);refine aa.bX rfl rfl rfl rfl rfl (al _ ⟨dF,rfl,jr⟩) I (aG.all _) ?_ (fun _ _ ⟨h,_⟩ _=>by cases h);rintro _ iO ⟨⟨⟩,o2⟩ I;rw [d6] at I ⊢;refine er ?_;rw [ax] at hm;exact Fin.bs I C aJ (aG.all _) ⟨by rw [hm];rfl,o2⟩
def jW (w:bz) (s:Int):Nat:=(w.owner.getD s.toNat 0).toNat
def pY (w:bz) (σ:d') (cn:List Int→Bool) (arg:Int) (path:List Int):List Int→Nat→Nat→Option (Nat×Nat)
 | [],m,n=>some (m,n)
 | s::r,m,n=>
  if (σ (bx arg (path++[s]))).gC && !cn (path++[s]) then none
  else if (σ (bx arg (path++[s]))).gC then pY w σ cn arg path r (m|||2^jW w s) n
  else if cn (path++[s]) then pY w σ cn arg path r m n
  else pY w σ cn arg path r m (n|||2^jW w s)
def uc (w:bz) (m:Nat) (i:Nat):Nat:=if m.testBit (3+i) then m|||(eY w.ps).getD (3+i) 0 else m
def rS (w:bz) (m:Nat):Nat:=(ag3 w.ps.length).foldl (uc w) m
def xI (w:bz) (σ:d') (cn:List Int→Bool) (arg:Int) (path:List Int):Nat×Bool:=
 if (σ (bx arg path)).whole||((σ (bx arg path)).gb.testBit 1||((σ (bx arg path)).gb.testBit 2||(σ (bx arg path)).no.testBit 0)) then (0,false)
 else match pY w σ cn arg path (σ (bx arg path)).bp (σ (bx arg path)).gb (σ (bx arg path)).no with
  | none=>(0,false)
  | some (m,n)=>(k9 (rS w m) 1,decide (k9 (rS w m) 1 &&& n=0))
theorem bo.Oq {o:bN} {db:dH}:∀ {L:a'},(o,db)∈L→∃ R,bo L o db R
  | e::L,h=>by
    rcases af2.1 h with rfl|h
    · exact ⟨_,bo.here⟩
    · obtain ⟨R,h⟩:=bo.Oq h
      exact ⟨_,bo.there h⟩
structure EB (w:bz) (σ:d'):Prop where
 slot:∀ q,∀ x∈(σ q).bp,0≤x∧x<(w.owner.length:Int)
def Ot (w:bz) (mb n:Nat) (σ:d') (arg:Int) (cn:List Int→Bool) (path:List Int):Prop:=
 ∀ (E:List lp) (K:a'),mj n E σ mb K→bA d0 270 [ib w mb,iM (bx arg path)] K (fun o aO=>o = .ret (.bool (cn path))∧mj n E σ mb aO)
theorem X9 (w:bz) (hw:gz w) (mb n:Nat) (az:n<bC) (σ:d') (ck:vq n σ) (gO:EB w σ) (arg:Int) (path:List Int) (aF:path.length≤2) (cn:List Int→Bool) (sP:path.length<2→∀ s,Ot w mb n σ arg cn (path++[s])) {E:List lp} (K:a') (bk:mj n E σ mb K) :
  bA d0 285 [ib w mb,iM (bx arg path)] K (fun o aO=>o = .ret (.cw [.int .u64 ((xI w σ cn arg path).1:Int),.bool (xI w σ cn arg path).2])∧mj n E σ mb aO):=by
 have an:=bD;obtain ⟨es,rfl,cG⟩:=bk;have ad:=xE w mb n σ es cG arg (path.length:Int) (path.getD 0 0) (path.getD 1 0);have lF:=ck.mU (bx arg path);have hm:xI w σ cn arg path=if (σ (bx arg path)).whole||((σ (bx arg path)).gb.testBit 1||((σ (bx arg path)).gb.testBit 2||(σ (bx arg path)).no.testBit 0)) then (0,false)
  else match pY w σ cn arg path (σ (bx arg path)).bp (σ (bx arg path)).gb (σ (bx arg path)).no with
   | none=>(0,false)
   | some (m,n)=>(k9 (rS w m) 1,decide (k9 (rS w m) 1 &&& n=0)):=rfl
 have g1:=y2 (σ (bx arg path)).gb 1 lF.gb af;have g2:=y2 (σ (bx arg path)).gb 2 lF.gb af;have g0:=y2 (σ (bx arg path)).no 0 lF.no af;have kP:=fun bu h=>Om arg path bu h
 refine bA.bh ah Tryz.func285 C C fun s I=>?_
 unfold ib at *;unfold iM kx at *;refine dt ?_;refine aa.bX rfl rfl rfl rfl rfl ad I (aG.all _) ?_ (fun _ _ ⟨_,_,h,_⟩ _=>by cases h);rintro _ _ ⟨b,R,⟨⟩,⟨dF,fg,jr,fH⟩,rfl⟩ I;rw [d6] at I ⊢;unfold iu at I ⊢;refine tB I ?_;intro I;cases vt:(σ (bx arg path)).whole with
 | true=>
  refine aa.dY 30 C vt ?_;refine ed ?_;rw [vt,ak3,g6 C] at hm;exact Fin.bs I C aJ (aG.iA fg) ⟨by rw [hm];rfl,dF,rfl,jr⟩
 | false=>
 refine aa.dh 30 C vt ?_;refine c2 ?_;cases nS:(σ (bx arg path)).gb.testBit 1 with
 | true=>
  refine ed ?_;rw [nS,ak3,ap2,g6 C] at hm;exact Fin.bs I C aJ (aG.iA fg) ⟨by rw [hm];rfl,dF,rfl,jr⟩
 | false=>
 refine c2 ?_;cases iU:(σ (bx arg path)).gb.testBit 2 with
 | true=>
  refine ed ?_;rw [iU,ak3,ap2,ap2,g6 C] at hm;exact Fin.bs I C aJ (aG.iA fg) ⟨by rw [hm];rfl,dF,rfl,jr⟩
 | false=>
 refine c2 ?_;cases yV:(σ (bx arg path)).no.testBit 0 with
 | true=>
  refine ed ?_;rw [yV,ap2,ap2,ap2,g6 C] at hm;exact Fin.bs I C aJ (aG.iA fg) ⟨by rw [hm];rfl,dF,rfl,jr⟩
 | false=>
 rw [vt,nS,iU,yV] at hm;simp only [Bool.or_self,af8,ah'] at hm;refine cC I ?_;intro I;have adi:=lF.bp;refine ae.b5 [0,3,45,46] C I (σ:=Nat×Nat×Nat×List lp) (fun q=>[(47,.int .i64 (q.1:Int)),(7,.int .u64 (q.2.1:Int)),(8,.int .u64 (q.2.2.1:Int))]) (fun q=>mV σ mb q.2.2.2)
  (fun q=>q.1≤(σ (bx arg path)).bp.length∧pY w σ cn arg path (σ (bx arg path)).bp (σ (bx arg path)).gb (σ (bx arg path)).no=pY w σ cn arg path ((σ (bx arg path)).bp.drop q.1) q.2.1 q.2.2.1∧q.2.1<2^64∧q.2.2.1<2^64∧xD n E σ q.2.2.2)
  (fun q=>(σ (bx arg path)).bp.length-q.1) (0,(σ (bx arg path)).gb,(σ (bx arg path)).no,dF) ⟨g7 _,by rw [am6],lF.gb,lF.no,jr⟩ (cl C) (aG.iA fg) ?_
 rintro ⟨j,m,gS,IK⟩ ⟨aL,a7,zj,zk,vp⟩ I;simp only at aL a7 zj zk vp I ⊢;refine b7 ?_;refine ae.cond C (fun au=>?_) (fun aV=>?_);rotate_left
 ·have aV:j=(σ (bx arg path)).bp.length:=by
   have:¬ (j<(σ (bx arg path)).bp.length):=by simpa [bx] using aV
   omega
  subst aV;rw [List.drop_length,pY] at a7;rw [a7] at hm;simp only at hm;refine bl ?_;refine ae.b5 [0,3] C I (σ:=Nat×Nat) (fun q=>[(14,.int .i64 ((3+q.1:Nat):Int)),(7,.int .u64 (q.2:Int)),(8,.int .u64 (gS:Int))]) (fun q=>mV σ mb IK)
   (fun q=>q.1≤w.ps.length∧q.2=(ag3 q.1).foldl (uc w) m∧q.2<2^64) (fun q=>w.ps.length-q.1) (0,m) ⟨g7 _,rfl,zj⟩ (cl C) (aG.all _) ?_
  rintro ⟨c,hE⟩ ⟨aB,IL,eT⟩ I;simp only at aB IL eT I ⊢;have tV:=hw.ja;have dm:t7 .i64 (3+((w.ps.map bd).length:Int))=3+(w.ps.length:Int):=by rw [d9,dz af af]
  refine b7 ?_;refine ae.cond C (fun cI=>?_) (fun dV=>?_);rotate_left
  ·have dV:c=w.ps.length:=by rw [dm] at dV;simp at dV;omega
   subst dV;have ss:rS w m=hE:=IL.symm;rw [ss] at hm;refine bl ?_;refine aa.bits ((k9 hE 1:Nat):Int) C C C C C C (DO eT du) ?_;refine fI ?_;refine aa.bits ((k9 hE 1 &&& gS:Nat):Int) C C C C C C (u1 (Nat.and_lt_two_pow _ (Nat.xor_lt_two_pow du du)) zk) ?_;refine er ?_;exact Fin.bs I C aJ (aG.all _) ⟨by rw [hm];simp only [BQ],IK,rfl,vp⟩
  have cI:c<w.ps.length:=by rw [dm] at cI;simp at cI;omega
  have kF:=tN w.ps;obtain ⟨u,hu⟩:∃ u,(eY w.ps)[3+c]? = some u:=⟨_,f7 af⟩;have X':(eY w.ps).getD (3+c) 0=u:=by rw [d7,hu];rfl
  have xf:=yN tV u (d5 hu);have cY:=y2 hE (3+c) eT af;have aI:(ag3 (c+1)).foldl (uc w) m=uc w hE c:=by rw [aq2,ao0,← IL];rfl
  have iL:uc w hE c=if hE.testBit (3+c) then hE|||u else hE:=by unfold uc;rw [X']
  rw [iL] at aI;have av:=Bq (w:=w) (yO hu);have Af:hE|||u<2^64:=aj4 eT xf
  cases IM:hE.testBit (3+c) with
  | false=>
   rw [IM] at cY aI;simp only [af8,ah'] at aI;refine b' ?_;exact bn.mk (c+1,hE) I ⟨cI,aI.symm,eT⟩ NR (aG.all _) (by show w.ps.length-(c+1)<w.ps.length-c;omega)
  | true=>
   rw [IM] at cY aI;simp only [ag7] at aI;refine c2 ?_;refine aa.l9 ah (3+c) C C C C C C C C C C af ?_;refine aa.Ba ah C C C C C C C (by simpa using av) ?_;skip;refine aa.bits ((hE|||u:Nat):Int) C C C C C C (wZ eT xf) ?_;refine fj ?_;exact bn.mk (c+1,hE|||u) I ⟨cI,aI.symm,Af⟩ NR (aG.all _) (by show w.ps.length-(c+1)<w.ps.length-c;omega)
 have au:j<(σ (bx arg path)).bp.length:=by simpa [bx] using au
 obtain ⟨bu,ay,c8⟩:=b8 (f:=a8) au;have ih:path.length<2:=by
  rcases aq' path.length 2 with h|h
  ·exact h
  ·rw [ck.deep arg path h] at au;cases au
 have adj:=gO.slot _ bu (d5 ay);obtain ⟨k,rfl⟩:∃ k:Nat,bu=(k:Int):=⟨bu.toNat,by omega⟩;have sL:k<w.owner.length:=by omega
 have adk:=hw.own _ (an6 sL);have tV:=hw.ja;have Ou:w.owner[k]? = some ((jW w (k:Int):Nat):Int):=by
  unfold jW;rw [f7 sL,ae1,d7,f7 sL];simp only [af9];congr 1;omega
 have BR:jW w (k:Int)<64:=by
  unfold jW;rw [ae1,d7,f7 sL];simp only [af9];omega
 have IN:(w.owner.map a8)[k]? = some (.int .i64 ((jW w (k:Int):Nat):Int)):=by simp [Ou,a8]
 have Ya:=Bl m _ zj BR;have Yb:=Bl gS _ zk BR;have adl:=kP (k:Int) ih;have Yc:=sP ih (k:Int);have al:=xE w mb n σ IK vp arg ((path++[(k:Int)]).length:Int) ((path++[(k:Int)]).getD 0 0) ((path++[(k:Int)]).getD 1 0);have jJ:(σ (bx arg path)).bp.drop j=(k:Int)::(σ (bx arg path)).bp.drop (j+1):=by
  rw [at5 au];rw [f7 au] at ay;simp only [ao1.injEq] at ay;rw [ay]
 rw [jJ,pY] at a7;clear kP sP;generalize jW w (k:Int)=lO at Ou BR IN Ya Yb a7;refine T8 ?_;intro dK jJ cO;refine bc.runs (is:=[0,1,6,7]) C ?_;refine bc.bX 2 rfl rfl rfl rfl rfl rfl rfl al I (aG.all _) ?_ (fun _ _ ⟨_,_,h,_⟩ _=>by cases h);rintro _ _ ⟨cT,ad3,⟨⟩,⟨IP,Mp,EC,Yd⟩,rfl⟩ I;rw [d6] at I ⊢;refine bc.runs (is:=[3,4]) C ?_;have Ye:=Yc IP _ ⟨IP,rfl,EC.four,EC.rest,EC.mU,fun x ab=>ab⟩;refine bc.TS (σ:=List lp) (fun _ => .bool (cn (path++[(k:Int)]))) (fun z=>aS s (mV σ mb z)) (fun z=>Ok s (mV σ mb z)∧xD n IP σ z) (i:=5) (j:=8) ah C C C C C C C C C C C C (bo.get bo.here I) C C C C
  (aZ.bX rfl rfl Ye I (aG.iA Mp)) ?_ (fun z _ h=>h) ?_ ?_ (fun _ _ ⟨_,_,_,h,_⟩=>by cases h)
 ·rintro y aj ⟨aO,rfl,yW,⟨⟩,xJ,rfl,vu⟩
  rw [d6] at yW ⊢;exact ⟨xJ,⟨yW,vu⟩,rfl,rfl⟩
 ·rintro z ⟨zl,vu⟩ h
  have Yf:=vu.tA _ Yd;obtain ⟨ad5,Yg⟩:=bo.Oq (o := .own cT) (L:=mV σ mb z) (i0 _ (af'.2 ⟨_,Yf,rfl⟩));refine bc.ey 5 ah zl C C C C C C C C Yg C ?_;exact bc.congr _ (fun t=>TQ _ _ _ C t) h
 rintro xJ ⟨zl,vu⟩;refine bc.run C (bc.done C ?_);have ED:xD n E σ xJ:=⟨vu.four,vu.rest,vu.mU,fun x ab=>vu.tA x (EC.tA x ab)⟩;have D2:m|||2^lO<2^64:=aj4 zj (ai' af BR)
 have Yh:gS|||2^lO<2^64:=aj4 zk (ai' af BR)
 unfold gu fc qz fE bd at *;cases sJ:cn (path++[(k:Int)]) with
 | false=>
  refine dG ?_;cases e7:(σ (bx arg (path++[(k:Int)]))).gC with
  | true=>
   refine aa.dY 65 C e7 ?_;refine bl ?_;rw [sJ,e7] at a7;simp only [aj3,Bool.and_self,ag7] at a7;rw [a7] at hm;exact Fin.bs zl C aJ (aG.all _) ⟨by rw [hm];rfl,xJ,rfl,ED⟩
  | false=>
   refine aa.dh 65 C e7 ?_;refine aa.dh 12 C e7 ?_;refine b' ?_;rw [sJ,e7] at a7;simp only [f9,af8,ah'] at a7;exact bn.mk (j+1,m,gS|||2^lO,xJ) zl ⟨au,a7,zj,Yh,ED⟩ cj (aG.all _) Ie
 | true=>
  refine dG ?_;cases e7:(σ (bx arg (path++[(k:Int)]))).gC with
  | true=>
   refine aa.dY 65 C e7 ?_;refine aa.dY 12 C e7 ?_;refine b' ?_;rw [sJ,e7] at a7;simp only [ak2,ak8,af8,ah',ag7] at a7;exact bn.mk (j+1,m|||2^lO,gS,xJ) zl ⟨au,a7,D2,zk,ED⟩ cj (aG.all _) Ie
  | false=>
   refine aa.dh 65 C e7 ?_;refine aa.dh 12 C e7 ?_;refine bl ?_;rw [sJ,e7] at a7;simp only [f9,af8,ah',ag7] at a7;exact bn.mk (j+1,m,gS,xJ) zl ⟨au,a7,zj,zk,ED⟩ cj (aG.all _) Ie
def sQ (w:bz) (σ:d') (arg:Int):Nat→List Int→Bool
 | 0,_=>false
 | k+1,p=>xH σ arg p||(xF σ arg p||(xI w σ (sQ w σ arg k) arg p).2)
theorem Ov (w:bz) (hw:gz w) (mb n:Nat) (az:n<bC) (σ:d') (ck:vq n σ) (gO:EB w σ) (arg:Int):∀ (k:Nat) (path:List Int),path.length≤2→3≤k+path.length→Ot w mb n σ arg (sQ w σ arg k) path
  | 0,path,aF,al=>by omega
  | k+1,path,aF,al=>by
    intro E K bk;have U:=fun K bk=>X7 (E:=E) w mb n az σ ck arg path aF K bk
    have ad:=fun K bk=>X6 (E:=E) w mb n az σ ck arg path aF K bk
    have bf:=fun K bk=>X9 (E:=E) w hw mb n az σ ck gO arg path aF (sQ w σ arg k) (fun aC bu=>Ov w hw mb n az σ ck gO arg k (path++[bu]) (by rw [f6];simp;omega) (by rw [f6];simp;omega)) K bk
    have hm:sQ w σ arg (k+1) path=(xH σ arg path||(xF σ arg path||(xI w σ (sQ w σ arg k) arg path).2)):=rfl;refine bA.bh ah Tryz.func270 C C fun s I=>?_
    unfold ib at *;unfold iM kx at *;refine dt ?_;refine aa.bX rfl rfl rfl rfl rfl (U K bk) I (aG.all _) ?_ (fun _ _ ⟨h,_⟩ _=>by cases h);rintro _ iO ⟨⟨⟩,o2⟩ I;rw [d6] at I ⊢;refine fI ?_;cases aR:xH σ arg path with
    | true=>
      refine ed ?_;rw [aR] at hm;exact Fin.bs I C aJ (aG.all _) ⟨by rw [hm];rfl,o2⟩
    | false=>
      refine dU ?_;refine aa.bX rfl rfl rfl rfl rfl (ad iO o2) I (aG.all _) ?_ (fun _ _ ⟨h,_⟩ _=>by cases h);rintro _ IQ ⟨⟨⟩,BS⟩ I;rw [d6] at I ⊢;refine gr ?_;cases kg:xF σ arg path with
      | true=>
        refine ed ?_;rw [aR,kg] at hm;exact Fin.bs I C aJ (aG.all _) ⟨by rw [hm];rfl,BS⟩
      | false=>
        refine bl ?_;refine aa.bX rfl rfl rfl rfl rfl (bf IQ BS) I (aG.all _) ?_ (fun _ _ ⟨h,_⟩ _=>by cases h);rintro _ aei ⟨⟨⟩,Yi⟩ I;rw [d6] at I ⊢;refine ed ?_;rw [aR,kg] at hm;exact Fin.bs I C aJ (aG.all _) ⟨by rw [hm];rfl,Yi⟩
def nB (w:bz) (σ:d'):Bool:=(ag3 3).all fun a=>sQ w σ ((a:Nat):Int) 3 []
def IS:ag := .iface 291 (.agg [])
theorem Yj (w:bz) (hw:gz w) (mb n:Nat) (az:n<bC) (σ:d') (ck:vq n σ) (gO:EB w σ) {E:List lp} (K:a') (bk:mj n E σ mb K) :
  bA d0 249 [ib w mb] K (fun o aO=>(o=if nB w σ then .ret (.cw []) else .panic IS)∧mj n E σ mb aO):=by
 have U:=fun (a:Nat) K bk=>Ov w hw mb n az σ ck gO ((a:Nat):Int) 3 [] ba ba E K bk
 refine bA.bh ah Tryz.func249 C C fun s I=>?_
 unfold ib at *;unfold iM kx at *;refine fP ?_;refine ae.b5 [0] C I (σ:=Nat×a') (fun q=>[(3,.int .i64 (q.1:Int))]) (fun q=>q.2) (fun q=>q.1≤3∧((ag3 q.1).all fun a=>sQ w σ ((a:Nat):Int) 3 [])=true∧mj n E σ mb q.2) (fun q=>3-q.1) (0,K) ⟨by omega,rfl,bk⟩ (cl C) (aG.all _) ?_;rintro ⟨j,iO⟩ ⟨aL,a6,o2⟩ I;simp only at aL a6 o2 I ⊢;refine b7 ?_;refine ae.cond C (fun au=>?_) (fun aV=>?_);rotate_left
 ·have aV:j=3:=by simp at aV;omega
  subst aV;have hm:nB w σ=true:=a6;refine kL ?_;exact Fin.bs I C aJ (aG.all _) ⟨by rw [hm];rfl,o2⟩
 have au:j<3:=by simp at au;omega
 refine bl ?_;refine aa.bX rfl rfl rfl rfl rfl (U j iO o2) I (aG.all _) ?_ (fun _ _ ⟨h,_⟩ _=>by cases h);rintro _ IQ ⟨⟨⟩,BS⟩ I;rw [d6] at I ⊢;refine gr ?_;cases aB:sQ w σ ((j:Nat):Int) 3 [] with
 | false=>
  refine bl ?_;refine aa.panic C C C C ?_;have hm:nB w σ=false:=by
   unfold nB;rw [ax1];exact ⟨j,by simpa using au,by rw [aB];simp⟩
  exact Fin.fi I aJ (aG.all _) ⟨by rw [hm];rfl,BS⟩
 | true=>
  refine j8 ?_;exact bn.mk (j+1,IQ) I ⟨au,by rw [aq2,List.all_append,a6];simp [aB],BS⟩ cj (aG.all _) (by show 3-(j+1)<3-j;omega)
mutual
def js:ak→List ak
 | .mk o a p c n ks=>if (ak.mk o a p c n ks).c5 then [.mk o a p c n ks] else kY ks
def kY:List ak→List ak
 | []=>[]
 | x::r=>js x++kY r
end
theorem EE (f:ak):js f=if f.c5 then [f] else kY f.kids:=by cases f;rw [js];rfl
def fT (f g:ak):Bool:=decide (f.op=g.op)&&(decide (f.arg=g.arg)&&(decide (f.cls=g.cls)&&(decide (f.n=g.n)&&f.path==g.path)))
def hS (l:List ak) (f:ak):List ak:=if l.any (fun x=>fT x f) then l else l++[f]
def iP (gen:Int) (l:List ak) (m:h9):List ak:=if m.gen=gen then (js m.fact).foldl hS l else l
def ct (p:bT) (gen:Int):List ak:=p.methods.foldl (iP gen) []
def pZ (p:bT) (gen:Int):Bool:=decide (gen≥0)&&decide (gen<(p.ef.length:Int))
def hy (p:bT) (gen:Int):Int:=if gA p&&pZ p gen then (if (ct p gen).length≤7 then 0 else 3) else 2
def sR:Nat→List ak→Nat→List ch
 | _,[],_=>[]
 | i,f::r,v=>(f,!v.testBit i)::sR (i+1) r v
def qK (l:List ak) (v:Nat):List ch:=sR 0 l v
def mW (w:bz) (l:List ak) (v:Nat):Bool:=nB w (ev (qK l v))
def hF (w:bz) (l:List ak):List Nat:=(ag3 (2^l.length)).filter (mW w l)
mutual
def p0 (l:List ak) (v:Nat):ak→Bool
 | .mk o a p c n ks=>
  if o=1 then true
  else if o=5 then !(o4 l v 0 ks)
  else if o=6 then o4 l v 0 ks&&o4 l v 1 ks
  else if o=7 then o4 l v 0 ks||o4 l v 1 ks
  else match l.findIdx? (fun x=>fT x (.mk o a p c n ks)) with
   | some i=>v.testBit i
   | none=>false
def o4 (l:List ak) (v:Nat):Nat→List ak→Bool
 | _,[]=>false
 | 0,x::_=>p0 l v x
 | n+1,_::r=>o4 l v n r
end
theorem xK (l:List ak) (v:Nat):∀ (n:Nat) (ks:List ak) (x:ak),ks[n]? = some x→o4 l v n ks=p0 l v x
 | 0,y::r,x,h=>by rw [o4];simp at h;rw [h]
 | n+1,y::r,x,h=>by rw [o4];exact xK l v n r x e2
theorem Ow (l:List ak) (v:Nat) (f:ak):p0 l v f =
  if f.op=1 then true
  else if f.op=5 then !(o4 l v 0 f.kids)
  else if f.op=6 then o4 l v 0 f.kids&&o4 l v 1 f.kids
  else if f.op=7 then o4 l v 0 f.kids||o4 l v 1 f.kids
  else match l.findIdx? (fun x=>fT x f) with
   | some i=>v.testBit i
   | none=>false:=by cases f;rw [p0];rfl
def rT (gen:Int) (l:List ak) (v:Nat):Nat→List h9→List Int
 | _,[]=>[]
 | i,m::r=>if m.gen=gen&&p0 l v m.fact then (i:Int)::rT gen l v (i+1) r else rT gen l v (i+1) r
def dp (p:bT) (gen:Int) (l:List ak) (v:Nat):List Int:=rT gen l v 0 p.methods
inductive bW where
 | leaf (ms:List Int)
 | test (atom:Nat) (no yes:bW)
 deriving Inhabited
namespace bW
def gZ:bW→Nat
 | .leaf _=>0
 | .test _ a b=>1+max a.gZ b.gZ
def leaves:bW→Nat
 | .leaf _=>1
 | .test _ a b=>a.leaves+b.leaves
def before (a b:bW):Bool:=decide (a.gZ<b.gZ)||(decide (a.gZ=b.gZ)&&decide (a.leaves<b.leaves))
def laid:List bP→bW→List bP
 | l,.leaf ms=>l++[⟨-1,0,0,ms⟩]
 | l,.test i a b=>
  let sS:=laid (l++[⟨i,0,0,[]⟩]) a
  let fk:=laid sS b
  fk.set l.length ⟨i,(l.length:Int)+1,(sS.length:Int),[]⟩
end bW
def lq (have':Nat→List Int):List Nat→Bool
 | []=>true
 | v::r=>r.all fun u=>have' u==have' v
def firstM (have':Nat→List Int):List Nat→List Int
 | []=>[]
 | v::_=>have' v
def rU (out:Option bW) (t:bW):Option bW:=match out with
 | none=>some t
 | some o=>if t.before o then some t else some o
def fu (i:Nat) (vs:List Nat):List Nat:=vs.filter fun v=>v.testBit i
def fw (i:Nat) (vs:List Nat):List Nat:=vs.filter fun v => !v.testBit i
def jX (g:List Nat→bW) (vs:List Nat) (out:Option bW) (i:Nat):Option bW:=
 if (fu i vs).isEmpty||(fw i vs).isEmpty then out else rU out (.test i (g (fw i vs)) (g (fu i vs)))
def nC (A:Nat) (have':Nat→List Int):Nat→List Nat→bW
 | 0,vs => .leaf (firstM have' vs)
 | f+1,vs=>if lq have' vs then .leaf (firstM have' vs) else ((ag3 A).foldl (jX (nC A have' f) vs) none).getD (.leaf [])
def xL (p:bT) (gen:Int):bW:=
 let l:=ct p gen
 let vs:=hF (ca p) l
 nC l.length (dp p gen l) vs.length vs
def zm (g:List bP) (v:Nat):Nat→Int→Nat→Int×Nat
 | 0,eX,n=>(eX,n)
 | f+1,eX,n=>
  if (g.getD eX.toNat default).atom≥0 then zm g v f (if v.testBit (g.getD eX.toNat default).atom.toNat then (g.getD eX.toNat default).yes else (g.getD eX.toNat default).no) (n+1)
  else (eX,n)
def leads (g:List bP) (v:Nat):Int×Nat:=zm g v g.length 0 0
def BT (p:bT) (gen:Int) (g:List bP):Bool:=
 let l:=ct p gen
 g.all (fun x=>decide (x.atom<(l.length:Int)))&&(hF (ca p) l).all fun v=>(g.getD (leads g v).1.toNat default).ms==dp p gen l v
theorem BU (v c:Nat):(((v >>> c &&& 1:Nat):Int)==1)=v.testBit c:=by
 rw [show (((v >>> c &&& 1:Nat):Int)==1)=decide (((v >>> c &&& 1:Nat):Int)=1) from rfl,Nat.and_one_is_mod,Nat.testBit_eq_decide_div_mod_eq,Nat.shiftRight_eq_div_pow];apply decide_eq_decide.2;omega
theorem Ox (g:List bP) (av:jI g=true) (v:Nat) (aw:v<2^63):aT d0 75 [hv g,.int .i64 (v:Int)] (.cw [.int .i64 (leads g v).1,.int .i64 ((leads g v).2:Int)]):=by
 have an:=bD;refine aT.bh ah Tryz.func75 C C fun s I=>?_
 obtain ⟨lC,eT⟩:=Bh av;unfold hv;refine fP ?_;refine ae.b5 [0,1] C I (σ:=Nat×Nat×Nat) (fun q=>[(4,.int .i64 (q.1:Int)),(5,.int .i64 (q.2.1:Int))]) (fun _=>[]) (fun q=>q.1<g.length∧leads g v=zm g v q.2.2 (q.1:Int) q.2.1∧g.length≤q.1+q.2.2∧q.2.1≤q.1) (fun q=>g.length-q.1) (0,0,g.length) ⟨lC,rfl,by simp,g8 _⟩ (cl C) aX ?_;rintro ⟨j,n,f⟩ ⟨aL,aq,a7,az⟩ I
 try simp only at aL aq a7 az I ⊢
 obtain ⟨x,ab,bL⟩:=b8 (f:=eN) aL;have aU:=xe av ab;obtain ⟨f,rfl⟩:∃ k,f=k+1:=⟨f-1,by omega⟩;rw [zm,ae1,show g.getD j default=x by rw [d7,ab];rfl] at aq;unfold eN ha bd at bL;refine dG ?_;refine ae.cond C (fun a6=>?_) (fun a6=>?_);rotate_left
 ·rw [f0 (by simpa using a6)] at aq
  rw [aq];refine ez ?_;exact bB I
 have a6:x.atom≥0:=by simpa using a6
 rw [g6 a6] at aq;have eG:=(pR af).1 aU;obtain ⟨a,Oy⟩:∃ a:Nat,x.atom=a:=⟨x.atom.toNat,by omega⟩;rw [Oy,ae1] at aq;rw [Oy] at bL;refine bl ?_;refine aa.shr _ C C C C C C af (tJ af) ?_;refine aa.bits _ C C C C C C (AU (n:=1) (Nat.lt_of_le_of_lt (Nat.shiftRight_le v a) aw) af) ?_;refine gr ?_;have an:=BU v a;refine ae.cond C (fun aB=>?_) (fun aB=>?_)
 ·rw [aB] at an
  rw [← an,g6 C] at aq;obtain ⟨y,ay⟩:∃ y:Nat,x.yes=y:=⟨x.yes.toNat,by omega⟩;rw [ay] at aq bL;refine bl ?_;exact bn.mk (y,n+1,f) I ⟨by show y<g.length;omega,by rw [aq],by show g.length≤y+f;omega,by show n+1≤y;omega⟩ cj aX (by show g.length-y<g.length-j;omega)
 ·rw [aB] at an
  rw [← an,f0 ba] at aq;obtain ⟨y,ay⟩:∃ y:Nat,x.no=y:=⟨x.no.toNat,by omega⟩;rw [ay] at aq bL;refine bl ?_;exact bn.mk (y,n+1,f) I ⟨by show y<g.length;omega,by rw [aq],by show g.length≤y+f;omega,by show n+1≤y;omega⟩ cj aX (by show g.length-y<g.length-j;omega)
theorem Oz {g:List bP} (av:jI g=true) (v:Nat):∃ j x,(leads g v).1=(j:Nat)∧g[j]? = some x∧¬ x.atom≥0:=by
 obtain ⟨lC,eT⟩:=Bh av;suffices h:∀ (f j n:Nat),j<g.length→g.length≤j+f→∃ k x,(zm g v f (j:Int) n).1=(k:Nat)∧g[k]? = some x∧¬ x.atom≥0 from h g.length 0 0 lC ba
 intro f
 induction f with
 | zero=>intro j n U ad;omega
 | succ f a1=>
  intro j n U ad;obtain ⟨x,ab,-⟩:=b8 (f:=eN) U;have aU:=xe av ab;rw [zm,ae1,show g.getD j default=x by rw [d7,ab];rfl];by_cases a6:x.atom≥0
  ·rw [g6 a6]
   have eG:=(pR af).1 aU;split
   ·obtain ⟨y,ay⟩:∃ y:Nat,x.yes=y:=⟨x.yes.toNat,by omega⟩
    rw [ay];exact a1 y (n+1) af af
   ·obtain ⟨y,ay⟩:∃ y:Nat,x.no=y:=⟨x.no.toNat,by omega⟩
    rw [ay];exact a1 y (n+1) af af
  ·rw [f0 a6];exact ⟨j,x,rfl,ab,a6⟩
theorem Yk (fv:ag) (Go:List ak→a'→Prop) (fJ:a'→Prop) (fQ:ag→a'→Prop) (eG:∀ x rem K,Go (x::rem) K→dA d0 fv [x.bK] K (Bx Go fJ fQ rem)) :
  ∀ (n:Nat) (f:ak),f.size≤n→n<bC→∀ (rest:List ak) (K:a'),Go (js f++rest) K→bA d0 149 [f.bK,fv] K (Bx Go fJ fQ rest):=by
 have an:=bD;intro n
 induction n with
 | zero=>intro x h;have:=x.size_eq;omega
 | succ n a1=>
  intro f az jn rest K en;have iL:=f.size_eq;have ll:=ak.qq f.kids;rw [EE] at en;refine bA.bh ah Tryz.func149 C C fun s I=>?_
  cases aC:f.c5 with
  | true=>
   rw [aC,g6 C] at en;have al:=eG f rest K en;rw [ak.b6] at al ⊢;unfold ak.cells at al ⊢;have b3:f.op=2∨f.op=3∨f.op=4:=by unfold ak.c5 at aC;simp at aC;omega
   rcases b3 with h|h|h
   all_goals
    rw [h] at al ⊢;refine bl ?_;refine aa.gM C C C C C C al I (aG.all _) ?_ ?_
    ·rintro x aO (⟨⟨⟩,av⟩|⟨⟨⟩,ax⟩|⟨_,⟨⟩,_⟩) I
     all_goals rw [d6] at I ⊢
     ·refine ed ?_
      exact Fin.bs I C aJ (aG.all _) (.inl ⟨rfl,av⟩)
     ·refine ed ?_
      exact Fin.bs I C aJ (aG.all _) (.inr (.inl ⟨rfl,ax⟩))
    ·rintro x aO (⟨h,_⟩|⟨h,_⟩|⟨v,⟨⟩,aF⟩) I
     ·cases h
     ·cases h
     rw [d6] at I ⊢;exact Fin.fi I aJ (aG.all _) (.inr (.inr ⟨_,rfl,aF⟩))
  | false=>
   rw [aC,f0 ba] at en;have b3:f.op≠2∧f.op≠3∧f.op≠4:=by unfold ak.c5 at aC;simp at aC;omega
   rw [ak.b6];unfold ak.cells;refine dt ?_;refine aa.dh 10 C cV ?_;refine dU ?_;refine aa.dh 15 C cV ?_;refine gr ?_;refine ae.cond C (fun h=>by simp at h;omega) (fun _=>?_);refine kq ?_;refine ae.b5 [1,24,25] C I (σ:=Nat×a') (fun q=>[(26,.int .i64 (q.1:Int))]) (fun q=>q.2) (fun q=>q.1≤f.kids.length∧Go (kY (f.kids.drop q.1)++rest) q.2) (fun q=>f.kids.length-q.1) (0,K) ⟨g7 _,en⟩ (cl C) (aG.all _) ?_;rintro ⟨j,iO⟩ ⟨aL,en⟩ I
   try simp only at aL en I ⊢
   refine b7 ?_;refine ae.cond C (fun au=>?_) (fun aV=>?_);rotate_left
   ·have aV:j=f.kids.length:=by simp at aV;omega
    rw [eD af,kY,d8] at en;refine ez ?_;exact Fin.bs I C aJ (aG.all _) (.inl ⟨rfl,en⟩)
   have au:j<f.kids.length:=by simpa using au
   obtain ⟨x,ab,bL⟩:=b8 (f:=ak.bK) au;have c':=ak.h8 (d5 ab);rw [drop_cons ab,kY,ah0] at en;have i1:=a1 x af af _ iO en;rw [ak.b6] at i1 bL;unfold ak.cells at i1 bL;refine et ?_;refine aa.bX C C C C C i1 I (aG.all _) ?_ ?_
   ·rintro y aO (⟨⟨⟩,av⟩|⟨⟨⟩,ax⟩|⟨_,⟨⟩,_⟩) I
    all_goals rw [d6] at I ⊢
    ·refine bl ?_
     exact bn.mk (j+1,aO) I ⟨au,av⟩ cj (aG.all _) oR
    ·refine bl ?_
     exact Fin.bs I C aJ (aG.all _) (.inr (.inl ⟨rfl,ax⟩))
   ·rintro y aO (⟨h,_⟩|⟨h,_⟩|⟨v,⟨⟩,aF⟩) I
    ·cases h
    ·cases h
    rw [d6] at I ⊢;exact Fin.fi I aJ (aG.all _) (.inr (.inr ⟨_,rfl,aF⟩))
theorem Yl (f:ak) (a7:f.size<bC):yL d0 148 [] [.bw f.cells 0] [] ak.bK (js f):=by
 intro l Go fJ fQ pF K bk;have hw:=Yk (l3 l) Go fJ fQ (fun x rem K av=>pF x rem K av) f.size f (g8 _) a7 [] K (by rw [d6];exact bk);rw [ak.b6] at hw;refine bA.bh ah Tryz.func148 C C fun s I=>?_
 rw [d8] at I ⊢;unfold ak.cells at *;refine jE ?_;refine aa.bX C C C C C hw I (aG.all _) ?_ ?_
 ·rintro x aO (⟨⟨⟩,h⟩|⟨⟨⟩,h⟩|⟨_,⟨⟩,_⟩) I
  all_goals rw [d6] at I ⊢
  ·refine gr ?_
   exact Fin.bs I C aJ (aG.all _) (.inl ⟨rfl,.inl h⟩)
  ·refine gr ?_
   exact Fin.bs I C aJ (aG.all _) (.inl ⟨rfl,.inr h⟩)
 ·rintro x aO (⟨h,_⟩|⟨h,_⟩|⟨v,⟨⟩,h⟩) I
  ·cases h
  ·cases h
  rw [d6] at I ⊢;exact Fin.fi I aJ (aG.all _) (.inr ⟨_,rfl,h⟩)
theorem Ym (f:ak):aT d0 101 [f.bK] (.func 148 [] [.bw f.cells 0]):=by
 have an:=bD;refine aT.bh ah Tryz.func101 C C fun s I=>?_
 rw [ak.b6];unfold ak.cells;refine gX ?_;exact bB I
section
variable {P:Program} {Γ:cA} {N:Nat} {ops:Array Oper} {Q:b9→Env→ao→Prop} {env:Env} {s:ao} {l:List Oper} {o:Oper} {d:Nat} {L R:a'}
def IT (s:ao) (R:a') (e:TypeId) (sz n:Nat) (xs:List ag) (r:ag) (aj:ao):Prop:=
 ∃ aY cg cs',r=ee aY n cg∧aj=aS s ((.own aY,.box e cs')::R)∧Ok s ((.own aY,.box e cs')::R)∧cs'.length=cg*sz∧n≤cg∧cs'.take (n*sz)=xs
theorem OA (z:Array Value) (k:Nat):(Builtin.zeroCells z k).toList.length=k*z.size:=by
 rw [ae9];simp [Builtin.zeroCells]
theorem OB (aP:bQ P Γ) {w:World} {p:bV} {S:ao} (cf:dx w p S) {t bI e ty:TypeId} {it cz aH:bO} {bY sz:Nat} {olds:List Value} {xs ys:List ag} {dr:bN} {base:Option Addr} {n cap:Nat} {rq:Value}
  (aN:Γ.get? t=some it) (bt:it.bF = .aA e) (c0:Γ.get? bI=some cz) (dy:∀ k,cz.bF ≠ .int k) (bJ:Γ.get? e=some aH) (U:aH.size=sz) (dS:af0 aH.zero.cells.size aH.size=true)
  (aD:bH w p olds xs) (az:n*sz=xs.length) (k4:(Builtin.firstCells sz n (.slice base n cap)).run P w.drew = .ok olds.toArray w.drew) (ay:Rel w p rq (.aA bY [.agg ys] dr)) (de:bY=sz) (hK:ys.length=sz)
  (au:cap<n+1) (an:(n+1)*aH.bytes≤140737488355328) (ek:n+1≤9223372036854775807) :
  ∃ aY cg cs' w',(Builtin.append_ #[t,bI] ty #[.slice base n cap,rq]).run P w = .ok (.slice (some ⟨aY,0,none⟩) (n+1) cg) w'∧S aY=none∧dg w p w' p∧Kept S (S.set aY (.box e cs')) w p w' p∧dx w' p (S.set aY (.box e cs')) ∧
   cs'.length=cg*sz∧n+1≤cg∧cs'.take ((n+1)*sz)=xs++ys:=by
 obtain ⟨info,d,g1,g2,g3,-⟩:=aP.parts aN;obtain ⟨mZ,c9,ea,dj,dQ,-⟩:=aP.parts c0;obtain ⟨j1,kC,cE,dq,fl,eK,j2,jz⟩:=aP.parts bJ;have ax:d = .slice e:=by rw [bt] at g3;cases d<;>simp [eB] at g3;rw [g3]
 subst ax;have cp:∀ k,c9 ≠ .int k:=fun k e'=>by subst e';exact dy k dQ.symm
 obtain ⟨us,iv,qb,j3,kn,tm,tn,tp⟩:=q9 ay (.inr de);subst de;have ud:bH w p (flat us) ys:=by
  cases iv with
  | cons u _ wo _ hu wV=>
  cases wV;cases hu with
  | agg c _ aB=>simpa [flat,Value.cells] using aB
 have m8:=ud.length;have fr:=growslice_fits (need:=n+1) (old:=cap) (bytes:=aH.bytes) au an;have cS:=An (ty:=ty) w g2 dj cp cE jz (base:=base) (sLen:=n) (sCap:=cap) (m:=1) (olds:=olds) (news:=flat us) (j3 P)
  (by rw [eK,U];exact k4) (by rw [eK,U];exact kn P w.drew (fun _ _ _=>rfl)) au af (by rw [j2];exact fr)
 have nP:n+1≤grownCap w (n+1) cap e:=by simp [grownCap,Question.cut]
 have fZ:olds.length=n*bY:=by rw [aD.length,az]
 have pq:=ae0 dS;generalize tl:(Builtin.zeroCells aH.zero.cells (grownCap w (n+1) cap e-(n+1))).toList=aW at cS;have m9:aW.length=(grownCap w (n+1) cap e-(n+1))*bY:=by
  rw [← tl,OA,pq,U]
 generalize grownCap w (n+1) cap e=G at cS nP m9;have wW:=yp cf
 obtain ⟨ar,hle,aE,k7⟩:=r9 wW (.cells (olds++flat us++aW).toArray e (0,0)) (.box e (xs++ys++aW.map fun _ => .any)) (fun w' iS aw fC=>⟨_,iS,by
  refine bH.append (bH.append (fC _ _ (show bH w.drew p olds xs from aD.mono k3)) (fC _ _ (ud.mono k3))) (bH.AN aW),fun o aF=>absurd (cf.lt _ _ aF) (by show ¬ w.heap.size<w.heap.size;omega)⟩)
 rw [show w.drew.heap.size=w.heap.size from rfl] at ar aE k7;have hm:(n+1)*bY=n*bY+bY:=ax4 n bY;refine ⟨w.heap.size,G,xs++ys++aW.map (fun _=>ag.any),_,cS,ar,k3.trans hle,(v' (w:=w) (p:=p)).trans (k3 (w:=w) (p:=p)).size aE,k7,?_,nP,?_⟩
 ·simp only [f6,d9,m9]
  rw [← az,hK,← hm,← Nat.add_mul];congr 1;omega
 ·rw [ai7 cV,ag9 cV]
theorem aZ.o5 (aP:bQ P Γ) (I:Ok s L) {t bI e:TypeId} {x y:Operand} {it cz aH:bO} {dX bY sz:Nat} {ys:List ag} {dr:bN}
    (ai:o.op = .call { callee := .builtin .append,args := #[x,y],argTypes := #[t,bI] }) (aN:Γ.get? t=some it) (bt:it.bF = .aA e) (c0:Γ.get? bI=some cz) (dy:∀ k,cz.bF ≠ .int k)
    (bJ:Γ.get? e=some aH) (U:aH.size=sz) (dS:af0 aH.zero.cells.size aH.size=true) (ab:aM env x=some (.aA dX [] .nil)) (ay:aM env y=some (.aA bY [.agg ys] dr)) (de:bY=sz) (hK:ys.length=sz) (an:1*aH.bytes≤140737488355328)
    {X:ag→ao→Prop}:aZ P N o env (aS s L) (fun r aj=>IT s L e sz 1 ys r aj) X:=by
  refine aZ.kB iW fun ro B a w p aI=>?_
  have gp:=aI.aM ab;have fs:=aI.aM ay;have eQ:=fun val w'=>u0 (P:=P) (a:=a) (val:=val) (w:=w) (w':=w') ai
  generalize ep:a.eval x=dR at gp eQ;generalize e9:a.eval y=fW at fs eQ;have tF:dR = .slice none 0 0:=by
    cases gp with
    | h4=>rfl
    | iE a _ _ h=>rcases h with h|h<;>cases h
    | aA g off n cap _ vs _ _ az=>exact absurd C az
  subst tF
  obtain ⟨aY,cg,cs',w',e8,fB,gq,jl,mA,mB,nk,nm⟩:=OB (ty:=o.type) aP aI.wf (base:=none) (n:=0) (cap:=0) (olds:=[]) (xs:=[]) aN bt c0 dy bJ U dS .nil ba (by
    have:=run_firstCells_none (P:=P) w.drew sz 0 0 0
    simpa using this) fs de hK af (by simpa using an) af
  rw [af5] at e8 nk nm;exact ⟨_,w',_,p,_,eQ _ _ e8,gq,jl,mA,⟨aY,cg,cs',rfl,rfl,⟨fB,I⟩,mB,nk,by simpa using nm⟩,.hG _⟩
theorem aZ.o6 (aP:bQ P Γ) (I:Ok s L) {t bI e:TypeId} {x y:Operand} {it cz aH:bO} {b n cap bY sz:Nat} {cs ys:List ag} {dr:bN}
    (ai:o.op = .call { callee := .builtin .append,args := #[x,y],argTypes := #[t,bI] }) (aN:Γ.get? t=some it) (bt:it.bF = .aA e) (c0:Γ.get? bI=some cz) (dy:∀ k,cz.bF ≠ .int k)
    (bJ:Γ.get? e=some aH) (U:aH.size=sz) (dS:af0 aH.zero.cells.size aH.size=true) (ab:aM env x=some (ee b n cap)) (ar:bo L (.own b) (.box e cs) R) (cy:cs.length=cap*sz) (az:n≤cap)
    (ay:aM env y=some (.aA bY [.agg ys] dr)) (de:bY=sz) (hK:ys.length=sz) (dC:ys.all fe=true) (an:(n+1)*aH.bytes≤140737488355328) (ek:n+1≤9223372036854775807)
    {X:ag→ao→Prop}:aZ P N o env (aS s L) (fun r aj=>IT s R e sz (n+1) (cs.take (n*sz)++ys) r aj) X:=by
  obtain ⟨b2,bU,e1⟩:=ar.perm I;refine aZ.kB iW fun ro B a w p aI=>?_
  have gp:=aI.aM ab;have fs:=aI.aM ay;have eQ:=fun val w'=>u0 (P:=P) (a:=a) (val:=val) (w:=w) (w':=w') ai
  generalize ep:a.eval x=dR at gp eQ;generalize e9:a.eval y=fW at fs eQ;cases gp;obtain ⟨vs,cu,cL,dT⟩:=aI.wf.obj _ _ (ar.get I);have fC:vs.toList.length=cap*sz:=by rw [cL.length,cy]
  have tR:n*sz≤cap*sz:=am9 _ az;have hr:=cL.take (n*sz);have qd:∀ w':World,(∀ j,w'.cell? ⟨b,j,none⟩=w.cell? ⟨b,j,none⟩)→(Builtin.firstCells sz n (.slice (some ⟨b,0,none⟩) n cap)).run P w' = .ok (vs.toList.take (n*sz)).toArray w':=by
    intro w' iS;refine run_firstCells_some (P:=P) w' sz n ⟨b,0,none⟩ n cap (vs.toList.take (n*sz)) (by rw [ae8,fC];omega) (fun j u hu=>?_);rw [lB,af5,iS,jO cu];rw [ai4] at hu;split at hu
    · simpa using hu
    · cases hu
  by_cases au:cap<n+1
  · obtain ⟨aY,cg,cs',w',e8,fB,gq,jl,mA,mB,nk,nm⟩:=OB (ty:=o.type) aP aI.wf (base:=some ⟨b,0,none⟩) (n:=n) (cap:=cap) (olds:=vs.toList.take (n*sz)) (xs:=cs.take (n*sz)) aN bt c0 dy bJ U dS hr yi
      (qd w.drew fun _=>rfl) fs de hK au an ek
    have hU:ao.Sub ((aS s R).set aY (.box e cs')) ((aS s L).set aY (.box e cs')):=by
      refine DC (k := .own aY) ?_;rw [b2];exact yI (k := .own b) (ao.pr _) bU
    have av:aS s R aY=none:=by
      have h:=fB;rw [b2] at h;exact (ao.uK h).2
    exact ⟨_,w',_,p,_,eQ _ _ e8,gq,jl.sub hU,mA.sub hU,⟨aY,cg,cs',rfl,rfl,⟨av,e1⟩,mB,nk,nm⟩,.hG _⟩
  · obtain ⟨info,d,g1,g2,g3,-⟩:=aP.parts aN
    obtain ⟨mZ,c9,ea,dj,dQ,-⟩:=aP.parts c0;obtain ⟨j1,kC,cE,dq,fl,eK,j2,jz⟩:=aP.parts bJ;have ax:d = .slice e:=by rw [bt] at g3;cases d<;>simp [eB] at g3;rw [g3]
    subst ax;have cp:∀ k,c9 ≠ .int k:=fun k e'=>by subst e';exact dy k dQ.symm
    subst de;obtain ⟨us,iv,qb,j3,kn,tm,tn,tp⟩:=q9 (sz':=bY) fs (.inr rfl);have ud:bH w p (flat us) ys:=by
      cases iv with
      | cons u _ wo _ hu wV=>
      cases wV;cases hu with
      | agg c _ aB=>simpa [flat,Value.cells] using aB
    have m8:=ud.length;have mI:∀ x∈flat us,x.oneCell'=true:=q6 ud dC;have eP:vs.size=cap*bY:=by rw [← ae9];exact fC
    have hm:(n+1)*bY=n*bY+bY:=ax4 n bY;have adm:(n+1)*bY≤cap*bY:=am9 _ af;have cS:=C9 (ty:=o.type) (P:=P) w g2 dj cp cE b n cap vs cu (xv:=fW) (m:=1) (news:=flat us) (j3 P) (by rw [eK,U];exact kn P w (fun _ _ _=>rfl)) mI af (by rw [eK,U,eP];omega);rw [eK,U] at cS;have gW:bH w p (vs.toList.take (n*bY)++flat us++vs.toList.drop (n*bY+(flat us).length)) (cs.take (n*bY)++ys++cs.drop (n*bY+(flat us).length)):=bH.append (bH.append hr ud) (cL.drop _);have ck:(aS s L) b=some (.box e cs):=ar.get I
    obtain ⟨dm,jG,ix⟩:=wm aI.wf ck (vs':=(vs.toList.take (n*bY)++flat us++vs.toList.drop (n*bY+(flat us).length)).toArray) (cs':=cs.take (n*bY)++ys++cs.drop (n*bY+(flat us).length)) (fun AP bq=>by
      rw [cu] at bq;cases bq
      simp only [List.size_toArray,f6,ae8,ai1,fC]
      rw [eP];omega) (by simpa using gW) _ C
    obtain ⟨f1,f2⟩:=ar.put (.box e (cs.take (n*bY)++ys++cs.drop (n*bY+(flat us).length))) I;refine ⟨_,_,_,p,_,eQ _ _ cS,dm,jG,ix,⟨b,cap,cs.take (n*bY)++ys++cs.drop (n*bY+(flat us).length),rfl,f1,f2,?_,by omega,?_⟩,.hG _⟩
    · simp only [f6,ae8,ai1,cy];omega
    · have:(cs.take (n*bY)++ys).length=(n+1)*bY:=by rw [f6,ae8,cy];omega
      rw [ai7 af,ag9 af]
theorem aa.o5 (aP:bQ P Γ) (I:Ok s L) {t bI e:TypeId} {x y:Operand} {it cz aH:bO} {dX bY sz:Nat} {ys:List ag} {dr:bN} (av:guardOf ops env o=some true) (ax:o.dst=some d) (aU:t8 d N=true)
  (ai:o.op = .call { callee := .builtin .append,args := #[x,y],argTypes := #[t,bI] }) (aN:Γ.get? t=some it) (bt:it.bF = .aA e) (c0:Γ.get? bI=some cz) (dy:∀ k,cz.bF ≠ .int k)
  (bJ:Γ.get? e=some aH) (U:aH.size=sz) (dS:af0 aH.zero.cells.size aH.size=true) (ab:aM env x=some (.aA dX [] .nil)) (ay:aM env y=some (.aA bY [.agg ys] dr)) (de:bY=sz) (hK:ys.length=sz) (an:1*aH.bytes≤140737488355328)
  (h:∀ aY cg cs',cs'.length=cg*sz→1≤cg→cs'.take (1*sz)=ys→Ok s ((.own aY,.box e cs')::L)→aa P N ops l Q ((d,ee aY 1 cg)::env) (aS s ((.own aY,.box e cs')::L))):aa P N ops (o::l) Q env (aS s L):=by
 refine aa.op av ax aU (aZ.o5 aP I ai aN bt c0 dy bJ U dS ab ay de hK an (X:=fun _ _=>False)) ?_ (fun _ _ h=>h.elim);rintro r aj ⟨aY,cg,cs',rfl,rfl,ad,al,bf,bE⟩;exact h aY cg cs' al bf bE ad
theorem aa.o6 (aP:bQ P Γ) (I:Ok s L) {t bI e:TypeId} {x y:Operand} {it cz aH:bO} {b n cap bY sz:Nat} {cs ys:List ag} {dr:bN} (av:guardOf ops env o=some true) (ax:o.dst=some d) (aU:t8 d N=true)
  (ai:o.op = .call { callee := .builtin .append,args := #[x,y],argTypes := #[t,bI] }) (aN:Γ.get? t=some it) (bt:it.bF = .aA e) (c0:Γ.get? bI=some cz) (dy:∀ k,cz.bF ≠ .int k)
  (bJ:Γ.get? e=some aH) (U:aH.size=sz) (dS:af0 aH.zero.cells.size aH.size=true) (ab:aM env x=some (ee b n cap)) (ar:bo L (.own b) (.box e cs) R) (cy:cs.length=cap*sz) (az:n≤cap)
  (ay:aM env y=some (.aA bY [.agg ys] dr)) (de:bY=sz) (hK:ys.length=sz) (dC:ys.all fe=true) (an:(n+1)*aH.bytes≤140737488355328) (ek:n+1≤9223372036854775807)
  (h:∀ aY cg cs',cs'.length=cg*sz→n+1≤cg→cs'.take ((n+1)*sz)=cs.take (n*sz)++ys→Ok s ((.own aY,.box e cs')::R)→aa P N ops l Q ((d,ee aY (n+1) cg)::env) (aS s ((.own aY,.box e cs')::R))):aa P N ops (o::l) Q env (aS s L):=by
 refine aa.op av ax aU (aZ.o6 aP I ai aN bt c0 dy bJ U dS ab ar cy az ay de hK dC an ek (X:=fun _ _=>False)) ?_ (fun _ _ h=>h.elim);rintro r aj ⟨aY,cg,cs',rfl,rfl,ad,al,bf,bE⟩;exact h aY cg cs' al bf bE ad
end
section
variable {J:ao→Prop} {P:Program} {Γ:cA} {N:Nat} {Q:b9→Env→ao→Prop} {env:Env} {s:ao} {l:List Oper} {o:Oper} {d m:Nat} {L R:a'}
theorem bg.o5 (i:Nat) (aP:bQ P Γ) (I:Ok s L) {t bI e:TypeId} {x y:Operand} {it cz aH:bO} {dX bY sz:Nat} {ys:List ag} {dr:bN} (aD:eJ l.toArray m (idxs 0 l)=[i]) (aR:l.toArray[i]? = some o) (ax:o.dst=some d) (aU:t8 d N=true)
  (av:c6 l env o)
  (ai:o.op = .call { callee := .builtin .append,args := #[x,y],argTypes := #[t,bI] }) (aN:Γ.get? t=some it) (bt:it.bF = .aA e) (c0:Γ.get? bI=some cz) (dy:∀ k,cz.bF ≠ .int k)
  (bJ:Γ.get? e=some aH) (U:aH.size=sz) (dS:af0 aH.zero.cells.size aH.size=true) (ab:aM (b4 l env o) x=some (.aA dX [] .nil)) (ay:aM (b4 l env o) y=some (.aA bY [.agg ys] dr)) (de:bY=sz) (hK:ys.length=sz) (an:1*aH.bytes≤140737488355328)
  (aL:∀ aY cg cs',Ok s ((.own aY,.box e cs')::L)→cs'.length=cg*sz→J (aS s ((.own aY,.box e cs')::L)))
  (h:∀ aY cg cs',cs'.length=cg*sz→1≤cg→cs'.take (1*sz)=ys→Ok s ((.own aY,.box e cs')::L)→bg J P Γ N l.toArray Q (bZ (m|||2^i)) ((d,ee aY 1 cg)::env) (aS s ((.own aY,.box e cs')::L))):bg J P Γ N l.toArray Q (bZ m) env (aS s L):=by
 refine bg.one aD aR ax aU av (aZ.o5 aP I ai aN bt c0 dy bJ U dS ab ay de hK an (X:=fun _ _=>False)) ?_ ?_ (fun _ _ h=>h.elim)
 ·rintro r aj ⟨aY,cg,cs',rfl,rfl,ad,al,bf,bE⟩
  exact .inl (aL aY cg cs' ad al)
 ·rintro r aj ⟨aY,cg,cs',rfl,rfl,ad,al,bf,bE⟩
  exact h aY cg cs' al bf bE ad
theorem bg.o6 (i:Nat) (aP:bQ P Γ) (I:Ok s L) {t bI e:TypeId} {x y:Operand} {it cz aH:bO} {b n cap bY sz:Nat} {cs ys:List ag} {dr:bN} (aD:eJ l.toArray m (idxs 0 l)=[i]) (aR:l.toArray[i]? = some o) (ax:o.dst=some d) (aU:t8 d N=true)
  (av:c6 l env o)
  (ai:o.op = .call { callee := .builtin .append,args := #[x,y],argTypes := #[t,bI] }) (aN:Γ.get? t=some it) (bt:it.bF = .aA e) (c0:Γ.get? bI=some cz) (dy:∀ k,cz.bF ≠ .int k)
  (bJ:Γ.get? e=some aH) (U:aH.size=sz) (dS:af0 aH.zero.cells.size aH.size=true) (ab:aM (b4 l env o) x=some (ee b n cap)) (ar:bo L (.own b) (.box e cs) R) (cy:cs.length=cap*sz) (az:n≤cap)
  (ay:aM (b4 l env o) y=some (.aA bY [.agg ys] dr)) (de:bY=sz) (hK:ys.length=sz) (dC:ys.all fe=true) (an:(n+1)*aH.bytes≤140737488355328) (ek:n+1≤9223372036854775807)
  (aL:∀ aY cg cs',Ok s ((.own aY,.box e cs')::R)→cs'.length=cg*sz→J (aS s ((.own aY,.box e cs')::R)))
  (h:∀ aY cg cs',cs'.length=cg*sz→n+1≤cg→cs'.take ((n+1)*sz)=cs.take (n*sz)++ys→Ok s ((.own aY,.box e cs')::R)→bg J P Γ N l.toArray Q (bZ (m|||2^i)) ((d,ee aY (n+1) cg)::env) (aS s ((.own aY,.box e cs')::R))):bg J P Γ N l.toArray Q (bZ m) env (aS s L):=by
 refine bg.one aD aR ax aU av (aZ.o6 aP I ai aN bt c0 dy bJ U dS ab ar cy az ay de hK dC an ek (X:=fun _ _=>False)) ?_ ?_ (fun _ _ h=>h.elim)
 ·rintro r aj ⟨aY,cg,cs',rfl,rfl,ad,al,bf,bE⟩
  exact .inl (aL aY cg cs' ad al)
 ·rintro r aj ⟨aY,cg,cs',rfl,rfl,ad,al,bf,bE⟩
  exact h aY cg cs' al bf bE ad
end
section
variable {P:Program} {Γ:cA} {N:Nat} {env:Env} {s:ao} {ops:Array Oper} {rest:List Oper} {Q:b9→Env→ao→Prop} {L R:a'}
theorem OC:∀ (ys r:List ag),uG ys.length (ys++r)=some ys
 | [],r=>by cases r<;>rfl
 | y::ys,r=>by rw [g9,aa',uG,OC ys r]
theorem OD:∀ (a r:List ag),q3 a.length (a++r)=some r
 | [],r=>rfl
 | y::ys,r=>by rw [g9,aa',q3];exact OD ys r
def IU (i:bO):Bool:=match i.bF with
 | .struct _=>true
 | _=>false
theorem Yn {i:bO} {a ys z:List ag} (U:IU i=true) (aC:ys.length=i.size) {off:Nat} (a6:a.length=off):hV i (a++(ys++z)) off=some (.agg ys):=by
 unfold hV IU at *;subst a6;rw [OD];simp only;split at U
 ·rename_i h;rw [h];simp only;rw [← aC,OC]
 ·cases U
theorem EF {xss:List (List ag)} {sz:Nat} (cc:∀ c∈xss,c.length=sz):∀ {j:Nat} {ys:List ag},xss[j]? = some ys→∃ a z,xss.flatten=a++(ys++z)∧a.length=j*sz∧∀ ys',(xss.set j ys').flatten=a++(ys'++z):=by
 induction xss with
 | nil=>intro j ys h;cases h
 | cons x r a1=>
  intro j ys h;cases j with
  | zero=>
   simp at h;subst h;exact ⟨[],r.flatten,by simp,by simp,fun ys'=>by simp⟩
  | succ j=>
   obtain ⟨a,z,U,ad,al⟩:=a1 (fun c aB=>cc c (i0 _ aB)) e2;refine ⟨x++a,z,by rw [as6,U,ah0],by rw [f6,cc x i6,ad,ax4,ar0],fun ys'=>?_⟩;rw [List.set_cons_succ,as6,al,ah0]
theorem Yo {xss:List (List ag)} {sz:Nat} (cc:∀ c∈xss,c.length=sz):xss.flatten.length=xss.length*sz:=by
 induction xss with
 | nil=>simp
 | cons x r a1=>rw [as6,f6,cc x i6,a1 (fun c aB=>cc c (i0 _ aB)),g9,ax4,ar0]
theorem EG {i:bO} {cs:List ag} {xss:List (List ag)} {n j:Nat} {ys:List ag} (U:IU i=true) (cc:∀ c∈xss,c.length=i.size) (ab:cs.take (n*i.size)=xss.flatten) (aL:xss[j]? = some ys):hV i cs (j*i.size)=some (.agg ys):=by
 obtain ⟨a,z,ad,al,-⟩:=EF cc aL;have:cs=a++(ys++(z++cs.drop (n*i.size))):=by
  conv=>lhs;rw [← ai9 (n*i.size) cs,ab,ad]
  simp
 rw [this];exact Yn U (cc ys (d5 aL)) al
theorem IV:∀ (ys ys' a z:List ag),ys'.length=ys.length→eM a.length ys' (a++(ys++z))=a++(ys'++z)
  | [],[],a,z,_=>by simp [eM]
  | y::ys,OE::ys',a,z,h=>by
    have:=IV ys ys' (a++[OE]) z e2;rw [f6,ah0,ah0] at this;rw [eM,al8 _ _ (g8 _),ap9];exact this
theorem OF {sz:Nat} {cs:List ag} {xss:List (List ag)} {n j:Nat} {ys ys':List ag} (cc:∀ c∈xss,c.length=sz) (ab:cs.take (n*sz)=xss.flatten) (aL:xss[j]? = some ys) (aC:ys'.length=sz) :
  (eM (j*sz) ys' cs).length=cs.length∧(eM (j*sz) ys' cs).take (n*sz)=(xss.set j ys').flatten:=by
 obtain ⟨a,z,ad,al,bf⟩:=EF cc aL;have hK:=cc ys (d5 aL);have aB:cs=a++(ys++(z++cs.drop (n*sz))):=by
  conv=>lhs;rw [← ai9 (n*sz) cs,ab,ad]
  simp
 have hlen:(xss.flatten).length≤n*sz:=by rw [← ab,ae8];omega
 have bE:eM (j*sz) ys' cs=a++(ys'++(z++cs.drop (n*sz))):=by
  conv=>lhs;rw [aB,← al]
  exact IV ys ys' a _ af
 refine ⟨by rw [bE];(conv=>rhs;rw [aB]);simp;omega,?_⟩;rw [bE,bf];by_cases ax:cs.length≤n*sz
 ·rw [List.drop_eq_nil_of_le ax,d6,ag9]
  have:(a++(ys'++z)).length=(a++(ys++z)).length:=by simp;omega
  rw [this,← ad];exact hlen
 ·have hf:(xss.flatten).length=n*sz:=by rw [← ab,ae8];omega
  have ig:(a++(ys'++z)).length=n*sz:=by rw [← hf,ad];simp;omega
  rw [show a++(ys'++(z++cs.drop (n*sz)))=(a++(ys'++z))++cs.drop (n*sz) by simp,ai7 af,ag9 af]
theorem dI.BV {B:fV} {ro:Option Nat} {a:Act} {w:World} {p:bV} (h:dI N B ro env s a w p) {kb b n cap sz i:Nat} {T xC:TypeId} {cells cs:List ag} {xss:List (List ag)} (cJ:kb≠b) (kc:s kb=some (.box T cells)) (aB:cells[i]? = some (ee b n cap)) (ar:s b=some (.box xC cs)) (ab:cs.take (n*sz)=xss.flatten) (fm:xss.length=n)
  (cc:∀ c∈xss,c.length=sz) (az:n≤cap) (hm:n≤9223372036854775807):∃ bj,dI N B ro env ((s.del b).set kb (.box T (cells.set i (.aA sz (xss.map ag.agg) .bb)))) a w bj∧dg w p w bj∧Kept s ((s.del b).set kb (.box T (cells.set i (.aA sz (xss.map ag.agg) .bb)))) w p w bj:=by
 obtain ⟨vs,U,ad,al⟩:=h.wf.obj _ _ ar;have au:b<w.heap.size:=(i9.1 U).1;have hle:dg w p w (p.ei b True):=⟨rfl,rfl,rfl,g8 _,fun _ _ h => .inl h,fun _ _ _=>rfl,fun _ _ h=>h⟩;have cR:∀ v,Rel w p v (ee b n cap)→Rel w (p.ei b True) v (.aA sz (xss.map ag.agg) .bb):=by
  intro v aD;cases aD;have hr:=ad.take (n*sz);rw [ab] at hr;obtain ⟨us,b2,bU,e1⟩:=G9 hr cc;refine .aA b 0 n cap sz us (xss.map ag.agg) .bb ba (by rw [d9,fm]) ?_ (b2.mono hle) e1 hm az (fun h=>by cases h) (fun b h=>by cases h);rw [bU];intro i v aR;refine ⟨.inr ⟨rfl,trivial⟩,?_⟩;rw [af5,jO U];rw [ai4] at aR;split at aR
  ·simpa using aR
  ·cases aR
 have aE:Kept s ((s.del b).set kb (.box T (cells.set i (.aA sz (xss.map ag.agg) .bb)))) w p w (p.ei b True):=⟨fun _ _ _=>rfl,fun aY an gi=>by
  have bf:aY≠kb:=fun e=>by subst e;rw [kc] at gi;cases gi
  rw [ao.fG _ _ bf]
  by_cases e:aY=b
  ·subst e;exact ao.nN _ _
  ·rw [ao.m3 _ e];exact gi,fun aY o an gi aF=>by
   rcases aF with aF|⟨rfl,_⟩
   ·exact aF
   ·rw [ar] at gi;cases gi⟩
 have cf:dx w (p.ei b True) ((s.del b).set kb (.box T (cells.set i (.aA sz (xss.map ag.agg) .bb)))):=by
  refine ⟨fun aY o an=>?_,fun aY o aF=>by rcases aF with aF|⟨rfl,_⟩;exact h.wf.lt _ _ aF;exact au⟩;have fg:aY≠b→∀ o,p.ei b True aY o↔p aY o:=fun e o=>⟨fun aF=>by rcases aF with aF|⟨e',_⟩;exact aF;exact absurd e' e,.inl⟩
  by_cases ji:aY=kb
  ·subst ji
   rw [ao.gn] at an;cases an;obtain ⟨us,g1,g2,g3⟩:=h.wf.obj _ _ kc;obtain ⟨v,uM,m7⟩:=g2.get aB;have bE:=(g2.mono hle).set i (cR v m7);have hf:us.toList.set i v=us.toList:=by
    apply aq6;intro k;rw [au6];split
    ·rename_i e;subst e
     split
     ·rw [uM]
     ·rename_i au;rw [am5 af]
    ·rfl
   rw [hf] at bE;exact ⟨us,g1,bE,fun o aF=>g3 o ((fg cJ o).1 aF)⟩
  rw [ao.fG _ _ ji] at an;by_cases e:aY=b
  ·subst e;rw [ao.nN] at an;cases an
  ·rw [ao.m3 _ e] at an
   have ai:=h.wf.obj aY o an;have fg:=fg e;cases o with
   | box t c=>obtain ⟨us,g1,g2,g3⟩:=ai;exact ⟨us,g1,g2.mono hle,fun o aF=>g3 o ((fg o).1 aF)⟩
   | row t sz n=>obtain ⟨cur,g1,g2,g3,g4⟩:=ai;exact ⟨cur,g1,g2,g3,fun o=>(fg o).trans (g4 o)⟩
   | map es=>obtain ⟨cQ,c,g1,g2,g3⟩:=ai;exact ⟨cQ,c,g1,⟨g2.1.mono hle,g2.2.mono hle⟩,g3⟩
   | lz es it l c=>exact ai.q1 hle C C
   | tick m=>exact ai
   | loop r env=>exact ⟨ai.1,fun t v h=>(ai.2 t v h).mono hle⟩
 exact ⟨_,h.step hle aE cf,hle,aE⟩
theorem ae.BV {c:Code} (I:Ok s L) {kb b n cap sz:Nat} (i:Nat) {T xC:TypeId} {cells cs:List ag} {xss:List (List ag)} {dw:a'} (U:bo L (.own kb) (.box T cells) R) (ad:bo R (.own b) (.box xC cs) dw) (aB:cells[i]? = some (ee b n cap)) (ab:cs.take (n*sz)=xss.flatten) (fm:xss.length=n) (cc:∀ c∈xss,c.length=sz) (az:n≤cap) (hm:n≤9223372036854775807)
  (h:Ok s ((.own kb,.box T (cells.set i (.aA sz (xss.map ag.agg) .bb)))::dw)→ae P N c Q env (aS s ((.own kb,.box T (cells.set i (.aA sz (xss.map ag.agg) .bb)))::dw))):ae P N c Q env (aS s L):=by
 obtain ⟨g1,g2,g3,g4,g5⟩:=Oh (o'' := .box T (cells.set i (.aA sz (xss.map ag.agg) .bb))) I U ad;intro tH B a w p e4 aI;obtain ⟨bj,al,bf,bE⟩:=aI.BV g1 g2 aB g3 ab fm cc az hm;rw [g4] at al bE;exact mq (h g5 tH B a w bj e4 al) fun _ _ _ q=>q.after bf bE
end
abbrev zn:=Option (Nat×Nat×List ag)
def rV:zn→List ak→ag
 | none,_ => .aA 0 [] .nil
 | some (g,cap,_),l=>ee g l.length cap
def qL:zn→a'
 | none=>[]
 | some (g,_,cs)=>[(.own g,.box 58 cs)]
def IW:zn→List ak→Prop
 | none,l=>l=[]
 | some (_,cap,cs),l=>cs.length=cap*6∧l.length≤cap∧cs.take (l.length*6)=(l.map ak.cells).flatten
theorem IX (l:List ak):∀ c∈l.map ak.cells,c.length=6:=fun c aB=>by obtain ⟨x,-,rfl⟩:=af'.1 aB;rfl
def o7 (cb:Nat) (f:ak):bN×dH:=(.own cb,.box 58 f.cells)
theorem Yp (cb:Nat) (x f:ak) (ab:x.path.length<bC) (a7:f.path.length<bC):dA d0 (.func 103 [] [.ptr cb 0]) [x.bK] [o7 cb f] (fun o K=>o = .ret (.bool (fT x f))∧K=[o7 cb f]):=by
 have U:=MU x f ab a7;have U:aT d0 104 [x.bK,f.bK] (.bool (fT x f)):=U;refine dA.fx (first:=[]) (cap:=[.ptr cb 0]) ?_;refine bA.bh ah Tryz.func103 C C fun s I=>?_
 unfold o7 at I ⊢;rw [ak.b6,ak.b6] at U;rw [ak.b6];unfold ak.cells at *;refine hD I ?_;intro I;exact Fin.bs I C aJ (aG.all _) ⟨rfl,rfl⟩
theorem Yq (g cap:Nat) (cs:List ag) (l:List ak) (aC:l.length<bC) (U:cs.length=cap*6) (ad:l.length≤cap) (al:cs.take (l.length*6)=(l.map ak.cells).flatten) (cb:Nat) (f:ak) (a7:f.path.length<bC) (aF:∀ x∈l,x.path.length<bC) :
  bA d0 150 [ee g l.length cap,.func 103 [] [.ptr cb 0]] [(.own g,.box 58 cs),o7 cb f]
   (fun o K=>o = .ret (.int .i64 (match l.findIdx? (fun x=>fT x f) with
    | some i=>(i:Int)
    | none => -1))∧K=[(.own g,.box 58 cs),o7 cb f]):=by
 have an:=bD;refine bA.bh ah Tryz.func150 C C fun s I=>?_
 unfold o7 at I ⊢;refine dt ?_;refine aa.pG ah C C C C C C C ?_;refine dG ?_;refine ae.b5 [0,1,7] C I (σ:=Nat) (fun j=>[(8,.int .i64 (j:Int))]) (fun _=>[(.own g,.box 58 cs),o7 cb f]) (fun j=>j≤l.length∧∀ i x,i<j→l[i]? = some x→fT x f=false) (fun j=>l.length-j) 0 ⟨g7 _,fun i x aR=>absurd aR (an2 _)⟩ (cl C) (aG.all _) ?_;rintro j ⟨aL,aq⟩ I;unfold o7 at I ⊢;refine b7 ?_;refine ae.cond C (fun au=>?_) (fun aV=>?_);rotate_left
 ·have aV:j=l.length:=by simp at aV;omega
  have ab:l.findIdx? (fun x=>fT x f)=none:=by
   rw [ai2];intro z bG;obtain ⟨i,aR⟩:=ai0 bG;have U:=qs aR;exact aq i z af aR
  rw [ab];refine ez ?_;exact Fin.bs I C aJ (aG.all _) ⟨rfl,rfl⟩
 have au:j<l.length:=by simpa using au
 obtain ⟨y,ay⟩:∃ y,l[j]? = some y:=⟨_,f7 au⟩;have c3:=Yp cb y f (aF y (d5 ay)) a7;rw [ak.b6] at c3;unfold o7 at c3;refine bl ?_;refine aa.ej ah j C C C C C C C C C C au ?_;refine aa.ey ah I C C C C C C .here (EG C (IX l) al (by rw [ae4,ay];rfl)) ?_;skip;refine aa.gM rfl rfl rfl rfl rfl rfl c3 I aX ?_ (fun _ _ ⟨h,_⟩ _=>by cases h);rintro _ _ ⟨⟨⟩,rfl⟩ I;rw [aa',d8] at I ⊢;cases az:fT y f with
 | true=>
  have ab:l.findIdx? (fun x=>fT x f)=some j:=by
   rw [ah3];refine ⟨au,by rw [(ae2.1 ay).2];exact az,fun i aR=>?_⟩;have:=aq i l[i] aR (f7 af);simpa using this
  rw [ab];refine bl ?_;exact Fin.bs I C aJ (.cons (.there .here) (.cons .here .nil)) ⟨rfl,rfl⟩
 | false=>
  refine bl ?_;refine bn.mk (j+1) I ⟨au,fun i x aR ab=>?_⟩ cj (.cons (.there .here) (.cons .here .nil)) n4;rcases ah5.1 aR with aR|rfl
  ·exact aq i x aR ab
  ·rw [ay] at ab;cases ab;exact az
theorem Yr {α:Type} (q:α→Bool) (l:List α):(decide ((match l.findIdx? q with
  | some i=>(i:Int)
  | none => -1)≥0))=l.any q:=by
 cases h:l.findIdx? q with
 | none=>
  rw [ai2] at h;have:l.any q=false:=by rw [ak'];intro x ab;rw [h x ab];simp
  rw [this];rfl
 | some i=>
  rw [ah3] at h;obtain ⟨U,ad,-⟩:=h;have:l.any q=true:=ag4.2 ⟨_,an6 U,ad⟩;rw [this];simp
theorem Ys (bu:zn) (l:List ak) (aC:l.length<bC) (ar:IW bu l) (cb:Nat) (f:ak) (a7:f.path.length<bC) (aF:∀ x∈l,x.path.length<bC) :
  bA d0 102 [rV bu l,.func 103 [] [.ptr cb 0]] (qL bu++[o7 cb f]) (fun o K=>o = .ret (.bool (l.any fun x=>fT x f))∧K=qL bu++[o7 cb f]):=by
 cases bu with
 | none=>
  have:l=[]:=ar;subst this;have h:=HA (.func 103 [] [.ptr cb 0]) [] (fun _=>[o7 cb f]) (fun _=>false) du (fun j x h=>by cases h);refine bA.mono (bA.args (show cU [.aA 0 [] .nil,.func 103 [] [.ptr cb 0]] [.aA 6 ([].map ak.bK) .bb,.func 103 [] [.ptr cb 0]] from .cons aQ.empty (.one aJ)) h) ?_;rintro o K (⟨rfl,rfl,-⟩|⟨j,h,-⟩)
  ·exact ⟨rfl,rfl⟩
  ·exact absurd h (an2 _)
 | some q=>
  obtain ⟨g,cap,cs⟩:=q;obtain ⟨U,ad,al⟩:=ar;rw [← Yr];have h:=Yq g cap cs l aC U ad al cb f a7 aF;show bA d0 102 [ee g l.length cap,.func 103 [] [.ptr cb 0]] [(.own g,.box 58 cs),o7 cb f] _;refine bA.bh ah Tryz.func102 C C fun s I=>?_
  refine dt ?_;refine aa.bX rfl rfl rfl rfl rfl h I (aG.all _) ?_ (fun _ _ ⟨h,_⟩ _=>by cases h);rintro _ _ ⟨⟨⟩,rfl⟩ I;rw [d6] at I ⊢;refine er ?_;exact Fin.bs I C aJ (aG.all _) ⟨rfl,rfl⟩
theorem EH (i:Nat):∀ vs:List Nat,(fu i vs).length+(fw i vs).length=vs.length
  | []=>rfl
  | v::r=>by
    have:=EH i r;unfold fu fw at *;cases h:v.testBit i<;>simp [ah9,h]<;>omega
theorem EI {i:Nat} {vs:List Nat} (h:((fu i vs).isEmpty||(fw i vs).isEmpty)=false):(fu i vs).length<vs.length∧(fw i vs).length<vs.length:=by
 have:=EH i vs;rw [al1] at h;have U:(fu i vs).length≠0:=by intro az;rw [au'.2 az] at h;simp at h
 have ad:(fw i vs).length≠0:=by intro az;rw [au'.2 az] at h;simp at h
 omega
theorem Yt {g g':List Nat→bW} {vs:List Nat} (h:∀ l:List Nat,l.length<vs.length→g l=g' l) (out:Option bW) (i:Nat):jX g vs out i=jX g' vs out i:=by
 unfold jX;cases he:(fu i vs).isEmpty||(fw i vs).isEmpty with
 | true=>rfl
 | false=>
  have:=EI he;rw [f0 ba,f0 ba,h _ this.1,h _ this.2]
theorem IY {g g':List Nat→bW} {vs:List Nat} (h:∀ l:List Nat,l.length<vs.length→g l=g' l):∀ (is:List Nat) (out:Option bW),is.foldl (jX g vs) out=is.foldl (jX g' vs) out
 | [],_=>rfl
 | i::r,out=>by rw [ah7,ah7,Yt h,IY h r]
theorem IZ (A:Nat) (h:Nat→List Int):∀ (f ng:Nat) (vs:List Nat),vs.length≤f→vs.length≤ng→nC A h f vs=nC A h ng vs
  | 0,ng,vs,U,_=>by
    have:vs=[]:=ax'.1 af;subst this;cases ng with
    | zero=>rfl
    | succ ng=>rw [nC,nC,lq,g6 C]
  | f+1,0,vs,_,ad=>by
    have:vs=[]:=ax'.1 af;subst this;rw [nC,nC,lq,g6 C]
  | f+1,ng+1,vs,U,ad=>by
    rw [nC,nC,IY (g:=nC A h f) (g':=nC A h ng) (fun l aC=>IZ A h f ng l af af)]
def eL (A:Nat) (h:Nat→List Int) (vs:List Nat):bW:=nC A h vs.length vs
theorem BW (A:Nat) (h:Nat→List Int) (vs:List Nat):eL A h vs=if lq h vs then .leaf (firstM h vs) else ((ag3 A).foldl (jX (eL A h) vs) none).getD (.leaf []):=by
 have e:eL A h vs=nC A h (vs.length+1) vs:=IZ A h _ _ vs (g8 _) (aB2 _);rw [e,nC,IY (g:=nC A h vs.length) (g':=eL A h) (fun l aC=>IZ A h _ _ l af (g8 _))]
theorem EJ (p:bT) (gen:Int):xL p gen=eL (ct p gen).length (dp p gen (ct p gen)) (hF (ca p) (ct p gen)):=rfl
theorem bW.p1:∀ t:bW,1≤t.leaves
 | .leaf _=>g8 1
 | .test _ a b=>by have:=a.p1;have:=b.p1;rw [bW.leaves];omega
theorem bW.BX:∀ t:bW,t.gZ<t.leaves
  | .leaf _=>Nat.one_pos
  | .test _ a b=>by
    have:=a.BX;have:=b.BX;have:=a.p1;have:=b.p1;rw [bW.gZ,bW.leaves];omega
theorem Yu {Pr:bW→Prop} {out:Option bW} {t:bW} (U:∀ o,out=some o→Pr o) (ad:Pr t):∀ o,rU out t=some o→Pr o:=by
 intro o h;unfold rU at h;cases out with
 | none=>cases h;exact ad
 | some x=>
  simp only at h;split at h
  ·cases h;exact ad
  ·cases h;exact U _ C
theorem Yv {Pr:bW→Prop} {g:List Nat→bW} {vs:List Nat} {out:Option bW} {i:Nat} (U:∀ o,out=some o→Pr o) (ad:((fu i vs).isEmpty||(fw i vs).isEmpty)=false→Pr (.test i (g (fw i vs)) (g (fu i vs)))):∀ o,jX g vs out i=some o→Pr o:=by
 unfold jX;cases he:(fu i vs).isEmpty||(fw i vs).isEmpty with
 | true=>rw [g6 C];exact U
 | false=>rw [f0 ba];exact Yu U (ad he)
theorem OG {Pr:bW→Prop} {g:List Nat→bW} {vs:List Nat}:∀ (is:List Nat) (out:Option bW),(∀ o,out=some o→Pr o)→(∀ i∈is,((fu i vs).isEmpty||(fw i vs).isEmpty)=false→Pr (.test i (g (fw i vs)) (g (fu i vs))))→∀ o,is.foldl (jX g vs) out=some o→Pr o
  | [],_,U,_=>U
  | i::r,out,U,ad=>by
    rw [ah7];exact OG r _ (Yv U (ad i i6)) (fun j aL=>ad j (i0 _ aL))
theorem OH {Pr:bW→Prop} {g:List Nat→bW} {vs:List Nat} {is:List Nat} {out:Option bW} {d:bW} (ax:Pr d) (U:∀ o,out=some o→Pr o) (ad:∀ i∈is,((fu i vs).isEmpty||(fw i vs).isEmpty)=false→Pr (.test i (g (fw i vs)) (g (fu i vs)))):Pr ((is.foldl (jX g vs) out).getD d):=by
 cases h:is.foldl (jX g vs) out with
 | none=>exact ax
 | some o=>exact OG is out U ad o h
theorem vw (A:Nat) (h:Nat→List Int):∀ (n:Nat) (vs:List Nat),vs.length≤n→(eL A h vs).leaves≤max 1 vs.length
  | n,vs,az=>by
    rw [BW];split
    · rw [bW.leaves];omega
    · refine OH (Pr:=fun t=>t.leaves≤max 1 vs.length) (by rw [bW.leaves];omega) (fun _ h=>by cases h) (fun i _ he=>?_)
      have aC:=EI he;have ay:=EH i vs;cases n with
      | zero=>omega
      | succ n=>
        have U:=vw A h n (fw i vs) af;have ad:=vw A h n (fu i vs) af;rw [bW.leaves];omega
theorem Yw (out:Option bW) (t:bW):∃ o,rU out t=some o:=by
 unfold rU;cases out with
 | none=>exact ⟨_,rfl⟩
 | some o=>simp only;split<;>exact ⟨_,rfl⟩
theorem OI {g:List Nat→bW} {vs:List Nat}:∀ (is:List Nat) (out:Option bW),(out≠none∨∃ i∈is,((fu i vs).isEmpty||(fw i vs).isEmpty)=false)→∃ o,is.foldl (jX g vs) out=some o
  | [],out,h=>by
    rcases h with h|⟨i,aR,_⟩
    · cases out with
      | none=>exact absurd C h
      | some o=>exact ⟨o,rfl⟩
    · cases aR
  | i::r,out,h=>by
    rw [ah7];refine OI r _ ?_;unfold jX;cases he:(fu i vs).isEmpty||(fw i vs).isEmpty with
    | true=>
      rw [g6 C];rcases h with h|⟨j,aL,h⟩
      · exact .inl h
      · rcases af2.1 aL with rfl|aL
        · rw [he] at h;cases h
        · exact .inr ⟨j,aL,h⟩
    | false=>
      rw [f0 ba];obtain ⟨o,ai⟩:=Yw out (.test i (g (fw i vs)) (g (fu i vs)));exact .inl (by rw [ai];simp)
theorem EK {α:Type} {l:List α} {x:α} (h:x∈l):l.isEmpty=false:=by cases l with|nil=>cases h|cons=>rfl
theorem Yx {A u v:Nat} {vs:List Nat} (hu:u∈vs) (aw:v∈vs) (U:u<2^A) (ad:v<2^A) (cJ:u≠v):∃ i∈ag3 A,((fu i vs).isEmpty||(fw i vs).isEmpty)=false:=by
 have hex:∃ i,u.testBit i≠v.testBit i:=Classical.byContradiction fun az=>cJ (Nat.eq_of_testBit_eq fun i=>Classical.byContradiction fun h=>az ⟨i,h⟩)
 obtain ⟨i,aR⟩:=hex
 have Yy:i<A:=Nat.lt_of_not_le fun aV=>aR (by
  rw [an0 (al2 U (ag2 af aV)),an0 (al2 ad (ag2 af aV))])
 refine ⟨i,List.mem_range.2 Yy,?_⟩;rw [al1];cases an:u.testBit i with
 | true=>
  have j7:v.testBit i=false:=by cases h:v.testBit i with|false=>rfl|true=>exact absurd (an.trans h.symm) aR
  exact ⟨EK (ah6.2 ⟨hu,an⟩),EK (ah6.2 ⟨aw,by rw [j7];rfl⟩)⟩
 | false=>
  have j7:v.testBit i=true:=by cases h:v.testBit i with|true=>rfl|false=>exact absurd (an.trans h.symm) aR
  exact ⟨EK (ah6.2 ⟨aw,j7⟩),EK (ah6.2 ⟨hu,by rw [an];rfl⟩)⟩
theorem Yz {h:Nat→List Int}:∀ {vs:List Nat},lq h vs=false→∃ u∈vs,∃ v∈vs,u≠v
  | v::r,a7=>by
    rw [lq] at a7;have:=ax1.1 a7;obtain ⟨u,hu,cJ⟩:=this;exact ⟨u,i0 _ hu,v,i6,by rintro rfl;simp at cJ⟩
theorem OJ {A:Nat} {h:Nat→List Int} {vs:List Nat} (sh:∀ v∈vs,v<2^A) (a7:lq h vs=false) (g:List Nat→bW):∃ o,(ag3 A).foldl (jX g vs) none=some o:=by
 obtain ⟨u,hu,v,aw,cJ⟩:=Yz a7;exact OI _ _ (.inr (Yx hu aw (sh u hu) (sh v aw) cJ))
section
variable {P:Program} {Γ:cA} {N:Nat} {env:Env} {s:ao} {ops:Array Oper} {rest:List Oper} {Q:b9→Env→ao→Prop} {L R:a'}
theorem dI.qM {B:fV} {ro:Option Nat} {a:Act} {w:World} {p:bV} (h:dI N B ro env s a w p) {kb:Nat} {T:TypeId} {cells sT:List ag} (kc:s kb=some (.box T cells)) (hle:cU cells sT) :
  dI N B ro env (s.set kb (.box T sT)) a w p∧Kept s (s.set kb (.box T sT)) w p w p:=by
 have aE:Kept s (s.set kb (.box T sT)) w p w p:=⟨fun _ _ _=>rfl,fun aY an gi=>by
  have bf:aY≠kb:=fun e=>by subst e;rw [kc] at gi;cases gi
  rw [ao.fG _ _ bf];exact gi,fun aY o an gi aF=>aF⟩
 have cf:dx w p (s.set kb (.box T sT)):=by
  refine ⟨fun aY o an=>?_,h.wf.lt⟩;by_cases ji:aY=kb
  ·subst ji
   rw [ao.gn] at an;cases an;obtain ⟨us,g1,g2,g3⟩:=h.wf.obj _ _ kc;exact ⟨us,g1,hle.rel g2,g3⟩
  ·rw [ao.fG _ _ ji] at an
   exact h.wf.obj aY o an
 exact ⟨h.step (.refl w p) aE cf,aE⟩
theorem ae.qM {c:Code} (I:Ok s L) {kb:Nat} {T:TypeId} {cells:List ag} (sT:List ag) (U:bo L (.own kb) (.box T cells) R) (hle:cU cells sT)
  (h:Ok s ((.own kb,.box T sT)::R)→ae P N c Q env (aS s ((.own kb,.box T sT)::R))):ae P N c Q env (aS s L):=by
 obtain ⟨g1,g2⟩:=U.put (.box T sT) I;intro tH B a w p e4 aI;obtain ⟨al,bE⟩:=aI.qM (U.get I) hle;rw [g1] at al bE;exact mq (h g2 tH B a w p e4 al) fun _ _ _ q=>q.after (.refl w p) bE
end
section
variable {P:Program} {Γ:cA} {N:Nat} {ops:Array Oper} {Q:b9→Env→ao→Prop} {env:Env} {s:ao} {l:List Oper} {o:Oper} {d:Nat}
theorem aZ.EL (aP:bQ P Γ) {t e:TypeId} {v:Value} {it aH:bO} {x:ag} (ai:o.op = .buildSlice t 1 #[(0,.const v)]) (aN:Γ.get? t=some it) (bt:it.bF = .aA e) (he:Γ.get? e=some aH) (C2:Nat.ble (1*aH.size) 16777216=true) (aB:hH v=some x) (cc:af0 v.cells.size aH.size=true) :
  aZ P N o env s (fun r aj=>r = .aA aH.size [x] .clip∧aj=s) (fun _ _=>False):=by
 refine aZ.m0 iW fun ro B a w p aI=>?_
 obtain ⟨info,d,U,ad,al,-⟩:=aP.parts aN;obtain ⟨mZ,c9,ow,ox,wg,p8,KI,C1⟩:=aP.parts he;have ax:d = .slice e:=by rw [bt] at al;cases d<;>simp [eB] at al;rw [al]
 subst ax;have ar:=ae0 cc;have hm:=Nat.le_of_ble_eq_true C2;have bU:bH w p [v] [x] := .cons _ _ _ _ (q4 aB) .nil;have e1:∀ u∈[v],u.cells.size=aH.size:=fun u hu=>by rw [H1.1 hu];exact ar
 have kA:(flat [v]).length=1*aH.size:=by simp [flat,ar]
 have th:∀ my:Array Value,my.size=1*aH.size→Instr.fill (fun i=>some (i*aH.size,aH.size)) my ((#[(0,Operand.const v)]:Array (Nat×Operand)).map fun x=>(x.1,a.eval x.2)).toList=some (flat [v]).toArray:=by
  intro my pq;have:=KD aH.size [v] 0 [] my.toList ba (by rw [ae9,pq];rfl) e1;simp only [d8] at this;simpa [Act.eval] using this
 refine gU.alloc (flat [v]).toArray e aI.wf.lt (val := .slice (some ⟨w.heap.size,0,none⟩) 1 1) ?_ ?_
 ·unfold execOp
  rw [ai];refine gV ?_;have m2:¬ (1*aH.size>2^24):=by omega
  unfold Instr.buildSlice;simp only [ac',run_underlying ad,i5,sizeOf,typeInfo,run_program,ow,ae6,p8,f0 m2];by_cases bq:1*aH.size=0
  ·rw [g6 bq,ac',ae6,i5,th _ ba]
   rfl
  ·rw [f0 bq]
   simp only [zeroValue,typeInfo,ac',run_program,ow,C1,ae6,i5];rw [th _ ba];rfl
 ·refine .aA _ 0 _ _ _ [v] _ _ ba rfl ?_ (bU.mono (uF aI.wf.lt _ _)) e1 ?_ (g8 _) (fun _=>rfl) (fun b an=>by cases an)
  ·exact FZ (w:=w) (p:=p) (flat [v]) e
  ·omega
theorem aa.EL (aP:bQ P Γ) {t e:TypeId} {v:Value} {it aH:bO} {x:ag} (av:guardOf ops env o=some true) (ax:o.dst=some d) (aU:t8 d N=true) (ai:o.op = .buildSlice t 1 #[(0,.const v)]) (aN:Γ.get? t=some it) (bt:it.bF = .aA e) (he:Γ.get? e=some aH) (C2:Nat.ble (1*aH.size) 16777216=true) (aB:hH v=some x) (cc:af0 v.cells.size aH.size=true)
  (h:aa P N ops l Q ((d,.aA aH.size [x] .clip)::env) s):aa P N ops (o::l) Q env s:=
 aa.op av ax aU (aZ.EL aP ai aN bt he C2 aB cc) (fun x aj ⟨U,ad⟩=>by subst U;subst ad;exact h) (fun _ _ h=>h.elim)
end
section
variable {P:Program} {Γ:cA} {N:Nat} {l:List Oper} {i:Nat} {rest:List Oper} {Q:b9→Env→ao→Prop} {env:Env} {s:ao} {o:Oper} {d:Nat}
theorem aK.xM {L R K:a'} {aef:eC→a'→Prop} {b:Nat} {db:dH} {f:FuncId} {f':Array Operand} {da:Array TypeId} {xs:List ag} (av:c6 l env o) (ax:o.dst=some d) (aU:t8 d N=true) (aD:eJ l.toArray (2^i-1) (idxs 0 l)=[i])
  (b3:o.op = .call { callee := .value (.func f),args:=f',argTypes:=da }) (a6:fX (b4 l env o) f'.toList=some xs) (h:bA P f xs K aef) (I:Ok s L) (ar:aG L K R)
  (aL:∀ x aO,aef (.ret x) aO→∃ dw,bo (aO++R) (.own b) db dw)
  (aE:∀ x aO,aef (.ret x) aO→Ok s (aO++R)→aK (fun aj=>aj b=some db) P Γ N l (i+1) rest Q ((d,x)::env) (aS s (aO++R))) (ab:∀ x aO,aef (.panic x) aO→Ok s (aO++R)→Q (.panic x) [] (aS s (aO++R))):aK (fun aj=>aj b=some db) P Γ N l i (o::rest) Q env (aS s L):=
 aK.xb av ax aU aD (aZ.bX b3 a6 h I ar) (fun x aj ⟨aO,U,ad,al⟩=>by subst U;obtain ⟨dw,hL⟩:=aL x aO al;exact hL.get ad) (fun x aj ⟨aO,U,ad,al⟩=>by subst U;exact aE x aO al ad) (fun x aj ⟨aO,U,ad,al⟩=>by subst U;exact ab x aO al ad)
end
section
variable {P:Program} {N:Nat} {ops:Array Oper} {Q:b9→Env→ao→Prop} {env:Env} {s:ao} {l:List Oper} {o:Oper} {d:Nat}
theorem aa.sB {g:Operand} {name:String} {f':Array Operand} {da:Array TypeId} {t:TypeId} {v:ag} {f:FuncId} {xs:List ag} {r:ag} (av:guardOf ops env o=some true) (ax:o.dst=some d) (aU:t8 d N=true)
  (ai:o.op = .call { callee := .invoke g name,args:=f',argTypes:=da }) (aw:aM env g=some (.iface t v)) (a6:fX env f'.toList=some xs) (hm:qf P t name f) (h:aT P f (v::xs) r)
  (aE:aa P N ops l Q ((d,r)::env) s):aa P N ops (o::l) Q env s:=
 aa.invoke av ax aU ai aw a6 hm (h s) (fun x aj ⟨U,ad⟩=>by cases U;subst ad;exact aE) (fun x aj ⟨U,_⟩=>by cases U)
end
section
variable {P:Program} {Γ:cA} {N:Nat} {l:List Oper} {i:Nat} {rest:List Oper} {Q:b9→Env→ao→Prop} {env:Env} {s:ao} {o:Oper} {d:Nat} {L R:a'}
theorem aK.jD (aP:bQ P Γ) (I:Ok s L) {t dW e5:TypeId} {x y:Operand} {ok:Bool} {it gL aH:bO} {m:Nat} {es:List (ag×ag)} {k z:ag} {r:Option ag} (av:c6 l env o) (ax:o.dst=some d) (aU:t8 d N=true)
  (ai:o.op = .lookup t x y ok) (aN:Γ.get? t=some it) (bt:it.bF = .map dW e5) (jy:Γ.get? dW=some gL) (bJ:Γ.get? e5=some aH) (ab:aM (b4 l env o) x=some (.map m)) (ay:aM (b4 l env o) y=some k) (ar:bo L (.own m) (.map es) R)
  (a7:kk gL.bF k=true) (aD:jj es k=some r) (bG:hH aH.zero=some z) (h:aK (fun aj=>aj=aS s L) P Γ N l (i+1) rest Q ((d,l0 ok z r)::env) (aS s L)):aK (fun aj=>aj=aS s L) P Γ N l i (o::rest) Q env (aS s L):=
 aK.calm av ax aU (fun _ e=>by subst e;exact aZ.jD aP I ai aN bt jy bJ ab ay ar a7 aD bG) h
end
section
variable {J:ao→Prop} {P:Program} {Γ:cA} {N:Nat} {l:List Oper} {i:Nat} {Q:b9→Env→ao→Prop} {env:Env} {s:ao} {o:Oper} {L R:a'}
theorem aK.nh (aP:bQ P Γ) (I:Ok s L) {t dW e5:TypeId} {x y z:Operand} {it gL:bO} {b:Nat} {es:List (ag×ag)} (dF:List (ag×ag)) {k v:ag} (av:c6 l env o) (ax:o.dst=none) (ma:kI l.toArray i=true)
  (b3:o.op = .mapUpdate t x y z∨o.op = .insert t x y z) (aN:Γ.get? t=some it) (bt:it.bF = .map dW e5) (jy:Γ.get? dW=some gL) (ab:aM (b4 l env o) x=some (.map b)) (ay:aM (b4 l env o) y=some k) (bG:aM (b4 l env o) z=some v)
  (ar:bo L (.own b) (.map es) R) (a7:kk gL.bF k=true) (aF:lZ es k v=some dF)
  (h:Ok s ((.own b,.map dF)::R)→Q .normal env (aS s ((.own b,.map dF)::R))):aK J P Γ N l i [o] Q env (aS s L):=
 aK.HG av ax ma (aZ.nh aP I b3 aN bt jy ab ay bG ar a7 aF (X:=fun _ _=>False)) (fun x aj ⟨U,ad⟩=>by subst U;exact h ad) (fun _ _ h=>h.elim)
end
def lr:bW→ag
 | .leaf ms => .iface 154 (.agg [bd ms])
 | .test i a b => .iface 156 (.agg [.int .i64 (i:Int),lr a,lr b])
theorem YA:qf d0 154 "consort/tree.size" 333 := Dy gj
theorem YB:qf d0 156 "consort/tree.size" 334 := Dy gj
theorem YC (ms:List Int):aT d0 333 [.agg [bd ms]] (.cw [.int .i64 0,.int .i64 1]):=by
 have an:=bD;refine aT.bh ah Tryz.func333 C C fun s I=>?_
 unfold bd;refine gX ?_;exact bB I
theorem ue:∀ t:bW,∃ ty v f,lr t = .iface ty v∧qf d0 ty "consort/tree.size" f∧(t.leaves<2^40→aT d0 f [v] (.cw [.int .i64 (t.gZ:Int),.int .i64 (t.leaves:Int)]))
  | .leaf ms=>⟨_,_,_,rfl,YA,fun _=>YC ms⟩
  | .test i a b=>by
    obtain ⟨t1,v1,f1,b2,nv,cu⟩:=ue a;obtain ⟨t2,v2,f2,bU,hE,cL⟩:=ue b;refine ⟨_,_,_,rfl,YB,fun aC=>?_⟩;rw [bW.leaves] at aC;have cu:=cu af;have cL:=cL af;have U:=a.BX;have ad:=b.BX;rw [b2,bU,bW.gZ,bW.leaves];refine aT.bh ah Tryz.func334 C C fun s I=>?_
    refine dt ?_;refine aa.sB C C C C C C nv cu ?_;refine fI ?_;refine aa.sB C C C C C C hE cL ?_;refine bl ?_;refine Fin.cB I C (aQ.of_eq ?_);rw [dz va va,dz af af];congr 3
    · congr 1
      split<;>omega
theorem YD (a b:bW) (a6:a.leaves<2^40) (dO:b.leaves<2^40):aT d0 108 [lr a,lr b] (.bool (a.before b)):=by
 have an:=bD;refine aT.bh ah Tryz.func108 C C fun s I=>?_
 obtain ⟨t1,v1,f1,b2,nv,cu⟩:=ue a;obtain ⟨t2,v2,f2,bU,hE,cL⟩:=ue b;have cu:=cu a6;have cL:=cL dO;rw [b2,bU];unfold bW.before;refine dt ?_;refine aa.sB C C C C C C nv cu ?_;refine fI ?_;refine aa.sB C C C C C C hE cL ?_;by_cases U:a.gZ<b.gZ
 ·rw [i7 U,ak3]
  refine fI ?_;refine aa.dY 22 C (i7 af) ?_;refine ed ?_;exact bB I
 ·rw [ab' U,ag6]
  refine fI ?_;refine aa.dh 22 C (ab' af) ?_;by_cases ad:a.gZ=b.gZ
  ·rw [i7 ad,f5]
   refine dU ?_;refine aa.dY 26 C cV ?_;refine er ?_;refine Fin.cB I C (aQ.of_eq (ae7 ag.bool ?_));rw [af7];simp
  ·rw [ab' ad,f9]
   refine dU ?_;refine aa.dh 26 C cV ?_;refine ed ?_;exact bB I
theorem qN {sz:Nat} {cs:List ag} {xss:List (List ag)} {n j k:Nat} {ys:List ag} {v:ag} (cc:∀ c∈xss,c.length=sz) (ab:cs.take (n*sz)=xss.flatten) (aL:xss[j]? = some ys) (aE:k<sz) :
  (eM (j*sz+k) [v] cs).length=cs.length∧(eM (j*sz+k) [v] cs).take (n*sz)=(xss.set j (ys.set k v)).flatten:=by
 have hK:=cc ys (d5 aL);have h:=OF (ys':=ys.set k v) cc ab aL (by rw [af1];exact hK);obtain ⟨a,z,ad,al,-⟩:=EF cc aL;have aB:cs=a++(ys++(z++cs.drop (n*sz))):=by
  conv=>lhs;rw [← ai9 (n*sz) cs,ab,ad]
  simp
 have e:eM (j*sz) (ys.set k v) cs=eM (j*sz+k) [v] cs:=by
  rw [mQ]
  conv=>lhs;rw [aB,← al]
  conv=>rhs;rw [aB,← al]
  rw [IV ys _ a _ (af1 ..),al8 _ _ af,ar5,az2 _ _ af]
 rw [e] at h;exact h
theorem OK {sz:Nat} {cs:List ag} {xss:List (List ag)} {n j k:Nat} {ys:List ag} {v:ag} (cc:∀ c∈xss,c.length=sz) (ab:cs.take (n*sz)=xss.flatten) (aL:xss[j]? = some ys) (aE:ys[k]? = some v):cs[j*sz+k]? = some v:=by
 obtain ⟨a,z,ad,al,-⟩:=EF cc aL;have aB:cs=a++(ys++(z++cs.drop (n*sz))):=by
  conv=>lhs;rw [← ai9 (n*sz) cs,ab,ad]
  simp
 have sL:=(ae2.1 aE).1;rw [aB,← al,af4 af,ar5,ag0 sL];exact aE
abbrev xN:=Option (Nat×Nat×List ag)
def gm:xN→List bP→ag
 | none,_ => .aA 0 [] .nil
 | some (g,cap,_),l=>ee g l.length cap
def fU:xN→a'
 | none=>[]
 | some (g,_,cs)=>[(.own g,.box 69 cs)]
def qO:xN→List bP→Prop
 | none,l=>l=[]
 | some (_,cap,cs),l=>cs.length=cap*4∧l.length≤cap∧cs.take (l.length*4)=(l.map ha).flatten
theorem jY (l:List bP):∀ c∈l.map ha,c.length=4:=fun c aB=>by obtain ⟨x,-,rfl⟩:=af'.1 aB;rfl
theorem qP (l:List bP) (x:bP):((l++[x]).map ha).flatten=(l.map ha).flatten++ha x:=by simp
theorem rW:∀ (t:bW) (L:List bP),(bW.laid L t).length+1=L.length+2*t.leaves
  | .leaf ms,L=>by rw [bW.laid,bW.leaves,f6];rfl
  | .test i a b,L=>by
    have U:=rW a (L++[⟨i,0,0,[]⟩]);have ad:=rW b (bW.laid (L++[⟨i,0,0,[]⟩]) a);rw [bW.laid,bW.leaves,af1];rw [f6,g9,af6] at U;omega
theorem xO:∀ (t:bW) (L:List bP) (j:Nat),j<L.length→(bW.laid L t)[j]? = L[j]?
  | .leaf ms,L,j,h=>by rw [bW.laid,ag0 h]
  | .test i a b,L,j,h=>by
    rw [bW.laid];rw [List.getElem?_set_ne af,xO b _ j (by have U:=rW a (L++[⟨i,0,0,[]⟩]);have ad:=a.p1;rw [f6,g9,af6] at U;omega),xO a _ j (by rw [f6];omega),ag0 h]
theorem YE:∀ (t:bW) (L:List bP) (bu:xN),qO bu L→L.length+2*t.leaves<2^31 →
  bA d0 61 [gm bu L,lr t] (fU bu) (fun o K=>∃ od,qO od (bW.laid L t)∧o = .ret (.cw [gm od (bW.laid L t),.int .i64 (L.length:Int)])∧K=fU od):=by
 have lD:bC=1099511627776:=rfl;intro t
 induction t with
 | leaf ms=>
  intro L bu cR bM;rw [bW.leaves] at bM;refine bA.bh ah Tryz.func61 C C fun s I=>?_
  rw [bW.laid];rcases bu with _|⟨g,cap,cs⟩
  ·have bq:L=[]:=cR
   subst bq;unfold gm fU lr at *;refine et ?_;refine aa.o5 ah I C C C C C C C di C C C C C C C du (fun cT eA ew cu cL dT I=>?_);refine bl ?_;exact Fin.bs I C aJ (by simp only [fU];exact aX) ⟨some (cT,eA,ew),⟨cu,cL,dT.trans (by simp;rfl)⟩,rfl,rfl⟩
  ·obtain ⟨U,ad,al⟩:=cR
   unfold gm fU lr at *;refine dt ?_;refine aa.pG ah C C C C C C C ?_;refine et ?_;refine aa.o6 ah I C C C C C C C di C C C C aW U ad C C C C Ep af (fun cT eA ew cu cL dT I=>?_);refine bl ?_;exact Fin.bs I C (aQ.of_eq (by simp [ee,gm])) (by simp only [fU];exact aX) ⟨some (cT,eA,ew),⟨cu,oW,by rw [qP,f6,g9,af6,← al];exact dT⟩,rfl,rfl⟩
 | test i a b kd rX=>
  intro L bu cR bM;rw [bW.leaves] at bM;have I0:=a.p1;have dk:=b.p1;have BY:=rW a (L++[⟨i,0,0,[]⟩]);have yU:=rW b (bW.laid (L++[⟨i,0,0,[]⟩]) a);have uf:(L++[(⟨i,0,0,[]⟩:bP)]).length=L.length+1:=by simp
  rw [uf] at BY;have m6:(bW.laid (bW.laid (L++[⟨i,0,0,[]⟩]) a) b)[L.length]? = some ⟨i,0,0,[]⟩:=by
   rw [xO b _ _ af,xO a _ _ af,af4 (g8 _),ap9];rfl
  have kd:=fun bu h=>kd (L++[⟨i,0,0,[]⟩]) bu h af
  have rX:=fun bu h=>rX (bW.laid (L++[⟨i,0,0,[]⟩]) a) bu h af
  have o8:bW.laid L (.test i a b)=(bW.laid (bW.laid (L++[⟨i,0,0,[]⟩]) a) b).set L.length ⟨i,(L.length:Int)+1,((bW.laid (L++[⟨i,0,0,[]⟩]) a).length:Int),[]⟩:=rfl;rw [o8];obtain ⟨ky,EM,Ai,oA,-,-⟩:=ue a;obtain ⟨j0,Ap,cb,sU,-,-⟩:=ue b;simp only [oA] at kd;simp only [sU] at rX;generalize eR:bW.laid (L++[⟨i,0,0,[]⟩]) a=sS at *;generalize rY:bW.laid sS b=fk at *;refine bA.bh ah Tryz.func61 C C fun s I=>?_
  rcases bu with _|⟨g,cap,cs⟩
  ·have bq:L=[]:=cR
   subst bq;unfold gm lr;rw [oA,sU];unfold fU at I ⊢;refine et ?_;refine aa.nV 30 (.aA 4 [.agg (ha ⟨i,0,0,[]⟩)] .bb) C (aQ.aA (.one (aQ.agg (.cons aJ (.cons aJ (.cons aJ (.one aQ.empty))))))) ?_;refine aa.o5 ah I C C C C C C C di C C C C C C C du (fun cT eA ew cu cL dT I=>?_);have kd:=kd (some (cT,eA,ew)) ⟨cu,cL,dT.trans ba⟩;simp only [gm,uf] at kd;refine bl ?_;refine aa.bX C C C C C kd I (by simp only [fU];exact aX) ?_ (fun _ _ ⟨_,_,h,_⟩ _=>by cases h);rintro _ _ ⟨xP,jR,⟨⟩,rfl⟩ I;rw [d6] at I ⊢;refine fI ?_;refine aa.bX rfl rfl rfl rfl rfl (rX xP jR) I (aG.all _) ?_ (fun _ _ ⟨_,_,h,_⟩ _=>by cases h);rintro _ _ ⟨oe,jk,⟨⟩,rfl⟩ I;rw [d6] at I ⊢;rcases oe with _|⟨g2,og,I1⟩
   ·have bq:fk=[]:=jk
    rw [bq] at m6;cases m6
   obtain ⟨g1,g3,g4⟩:=jk;have hM:=qN (k:=1) (v := .int .i64 (((([]:List bP)).length+1:Nat):Int)) (jY fk) g4 En af
   have mD:=qN (k:=2) (v := .int .i64 ((sS.length:Nat):Int)) (fun c aB=>by
    rcases aj7 aB with aB|rfl
    ·exact jY fk c aB
    ·rfl) hM.2 (aj9 pV) af
   unfold fU at I ⊢;unfold gm;refine fI ?_;refine aa.ej ah (([]:List bP)).length C C C C C C C C C C af ?_;refine dU ?_;refine aa.hQ ah I _ C C C C C C C C C aW (by rw [g1];show (([]:List bP)).length*4+1+1≤og*4;omega) C (fun I=>?_);refine aa.ej ah (([]:List bP)).length C C C C C C C C C C af ?_;refine dU ?_;refine aa.hQ ah I _ C C C C C C C C C aW (by rw [hM.1,g1];show (([]:List bP)).length*4+2+1≤og*4;omega) C (fun I=>?_);refine bl ?_;refine Fin.bs I C aJ (by simp only [fU];exact aX) ⟨some (g2,og,_),⟨mD.1.trans (hM.1.trans g1),Eo,?_⟩,?_,rfl⟩
   ·rw [af1]
    refine mD.2.trans ?_;rw [ar1,al'];rfl
   ·simp only [af1]
    try rfl
  ·obtain ⟨U,ad,al⟩:=cR
   unfold gm lr;rw [oA,sU];unfold fU at I ⊢;refine dt ?_;refine aa.pG ah C C C C C C C ?_;refine et ?_;refine aa.nV 30 (.aA 4 [.agg (ha ⟨i,0,0,[]⟩)] .bb) C (aQ.aA (.one (aQ.agg (.cons aJ (.cons aJ (.cons aJ (.one aQ.empty))))))) ?_;refine aa.o6 ah I C C C C C C C di C C C C aW U ad C C C C Ep af (fun cT eA ew cu cL dT I=>?_);have kd:=kd (some (cT,eA,ew)) ⟨cu,oW,by rw [qP,uf,← al];exact dT⟩;simp only [gm,uf] at kd;refine bl ?_;refine aa.bX C C C C C kd I (by simp only [fU];exact aX) ?_ (fun _ _ ⟨_,_,h,_⟩ _=>by cases h);rintro _ _ ⟨xP,jR,⟨⟩,rfl⟩ I;rw [d6] at I ⊢;refine fI ?_;refine aa.bX rfl rfl rfl rfl rfl (rX xP jR) I (aG.all _) ?_ (fun _ _ ⟨_,_,h,_⟩ _=>by cases h);rintro _ _ ⟨oe,jk,⟨⟩,rfl⟩ I;rw [d6] at I ⊢;rcases oe with _|⟨g2,og,I1⟩
   ·have bq:fk=[]:=jk
    rw [bq] at m6;cases m6
   obtain ⟨g1,g3,g4⟩:=jk;have hM:=qN (k:=1) (v := .int .i64 (((L).length+1:Nat):Int)) (jY fk) g4 En af
   have mD:=qN (k:=2) (v := .int .i64 ((sS.length:Nat):Int)) (fun c aB=>by
    rcases aj7 aB with aB|rfl
    ·exact jY fk c aB
    ·rfl) hM.2 (aj9 pV) af
   unfold fU at I ⊢;unfold gm;refine fI ?_;refine aa.ej ah (L).length C C C C C C C C C C af ?_;refine dU ?_;refine aa.hQ ah I _ C C C C C C C C C aW (by rw [g1];show (L).length*4+1+1≤og*4;omega) C (fun I=>?_);refine aa.ej ah (L).length C C C C C C C C C C af ?_;refine dU ?_;refine aa.hQ ah I _ C C C C C C C C C aW (by rw [hM.1,g1];show (L).length*4+2+1≤og*4;omega) C (fun I=>?_);refine bl ?_;refine Fin.bs I C aJ (by simp only [fU];exact aX) ⟨some (g2,og,_),⟨mD.1.trans (hM.1.trans g1),Eo,?_⟩,?_,rfl⟩
   ·rw [af1]
    refine mD.2.trans ?_;rw [ar1,al'];rfl
   ·simp only [af1]
    try rfl
theorem zo {α:Type} {f:Nat→α→Bool}:∀ {l:List α} {k j:Nat},mN f k l=some j→k≤j∧j<k+l.length∧∃ x,l[j-k]? = some x∧f j x=true
  | x::r,k,j,h=>by
    rw [mN] at h;split at h
    · rename_i aec aL
      cases h;obtain ⟨U,ad,y,al,bf⟩:=zo aL;refine ⟨by omega,by rw [g9];omega,y,?_,bf⟩;rw [show j-k=(j-(k+1))+1 by omega];exact al
    · split at h
      · cases h
        rename_i a7;exact ⟨g8 _,by rw [g9];omega,x,by rw [ap9];rfl,a7⟩
      · cases h
theorem oh:∀ (l:List bP) (i:Nat),(cd i l).1.length=l.length∧(cd i l).2.length=l.length
  | [],i=>⟨rfl,rfl⟩
  | x::r,i=>by
    have:=oh r (i+1);rw [cd];simp only [g9];omega
def YF (n i:Nat) (l:List bP):Prop:=∀ k,k<l.length →
 ((i:Int)+k≤(cd i l).1.getD k 0∧(cd i l).1.getD k 0<n)∧((cd i l).2.getD k default).atom=(l.getD k default).atom∧((cd i l).2.getD k default).ms=(l.getD k default).ms ∧
 (((cd i l).2.getD k default).atom≥0→(i:Int)+k<((cd i l).2.getD k default).no∧((cd i l).2.getD k default).no<n∧(i:Int)+k<((cd i l).2.getD k default).yes∧((cd i l).2.getD k default).yes<n)
theorem I2 {n:Nat}:∀ (l:List bP) (i:Nat),i+l.length=n→(∀ (k:Nat) (x:bP),l[k]? = some x→x.atom≥0→((i+k:Nat):Int)<x.no∧x.no<n∧((i+k:Nat):Int)<x.yes∧x.yes<n)→YF n i l
  | [],_,_,_=>fun k aE=>absurd aE (an2 _)
  | x::r,i,az,a7=>by
    have a1:=I2 (n:=n) r (i+1) (by rw [g9] at az;omega) (fun k y ay=>by
      have:=a7 (k+1) y (by simpa using ay)
      rwa [show i+(k+1)=i+1+k by omega] at this)
    have aC:=oh r (i+1);rw [g9] at az;have bq:=a7 0 x C;intro k aE;cases k with
    | succ k=>
      have:=a1 k (by rw [g9] at aE;omega);rw [cd];simp only [av8];obtain ⟨⟨dE,a2⟩,a3,a4,a5⟩:=this;refine ⟨⟨by push_cast at dE ⊢;omega,a2⟩,a3,a4,fun h=>?_⟩;obtain ⟨ho,cT,na,o0⟩:=a5 h;exact ⟨by push_cast at ho ⊢;omega,cT,by push_cast at na ⊢;omega,o0⟩
    | zero=>
      have a6:x.atom≥0→(i:Int)<x.no∧x.no<n∧(i:Int)<x.yes∧x.yes<n:=fun h=>bq h
      have kl:∀ m:Int,(i:Int)<m→m<n→(i:Int)<(cd (i+1) r).1.getD (m.toNat-(i+1)) 0∧(cd (i+1) r).1.getD (m.toNat-(i+1)) 0<n:=fun m U ad=>by
        have:=(a1 (m.toNat-(i+1)) af).1;omega
      rw [cd];simp only [aA1];refine ⟨?_,by split<;>rfl,by split<;>rfl,?_⟩
      · split
        · rename_i j aL
          obtain ⟨U,ad,-⟩:=zo aL;omega
        · omega
      · split
        · rename_i h
          intro _;obtain ⟨ho,cT,na,o0⟩:=a6 h;have cu:=kl x.no ho cT;have cL:=kl x.yes na o0;simp only;omega
        · rename_i h
          intro ad;exact absurd ad h
theorem I3 {α:Type} {f:Nat→α→Bool}:∀ {l:List α} {k:Nat},mN f k l=none→∀ j x,l[j]? = some x→f (k+j) x=false
  | y::r,k,h,j,x,ab=>by
    rw [mN] at h;split at h
    · cases h
    · rename_i aD
      split at h
      · cases h
      · rename_i a7
        cases j with
        | zero=>
          cases ab;simpa using a7
        | succ j=>
          have:=I3 aD j x vU;rwa [show k+(j+1)=k+1+j by omega]
theorem OL:∀ (l:List bP) (i a b:Nat),a<b→b<l.length→(cd i l).1.getD a 0=((i+a:Nat):Int)→(cd i l).1.getD b 0=((i+b:Nat):Int)→(cd i l).2.getD a default≠(cd i l).2.getD b default
  | [],_,_,_,_,h,_,_=>absurd h (an2 _)
  | x::r,i,0,b+1,_,an,U,ad=>by
    have aC:=oh r (i+1);rw [g9] at an;rw [cd] at U ad ⊢;simp only [aA1,av8] at U ad ⊢;split at U
    · rename_i j aL
      omega
    · rename_i az
      obtain ⟨z,bG⟩:∃ z,(cd (i+1) r).2[b]? = some z:=⟨_,f7 af⟩;have:=I3 az b z bG;rw [af5,show (cd (i+1) r).1.getD b 0=((i+1+b:Nat):Int) by rw [ad];omega] at this;simp only [beq_self_eq_true,f5,beq_eq_false_iff_ne] at this;rw [show (cd (i+1) r).2.getD b default=z by rw [d7,bG];rfl];exact fun he=>this he.symm
  | x::r,i,a+1,b+1,iz,an,U,ad=>by
    rw [cd] at U ad ⊢;simp only [av8] at U ad ⊢;exact OL r (i+1) a b af (by rw [g9] at an;omega) (by rw [U];omega) (by rw [ad];omega)
theorem OM {α:Type} (f:Nat→α→Bool) (x:α):∀ (l:List α) (k:Nat),mN f k (l++[x])=if f (k+l.length) x then some (k+l.length) else mN f k l
  | [],k=>by rw [d8,mN,mN];rfl
  | y::r,k=>by
    have e:k+1+r.length=k+(y::r).length:=by rw [g9];omega
    rw [aa',mN,OM f x r (k+1),e,mN];by_cases h:f (k+(y::r).length) x=true
    · rw [g6 h,g6 h]
    · rw [f0 h,f0 h]
structure qQ (g:List bP):Prop where
 pos:1≤g.length
 len:g.length≤1000
 ms:∀ x∈g,x.ms.length≤16
 eX:∀ (i:Nat) (x:bP),g[i]? = some x→x.atom≥0→(i:Int)<x.no∧x.no<g.length∧(i:Int)<x.yes∧x.yes<g.length
def fF (g:List bP) (m:Nat):List Int:=t6 m 0++(cd m (g.drop m)).1
def jf (g:List bP) (m:Nat):List bP:=g.take m++(cd m (g.drop m)).2
theorem zp (g:List bP) {m:Nat} (h:m≤g.length):(fF g m).length=g.length:=by
 unfold fF;rw [f6,af3,(oh _ _).1,ai1];omega
theorem BZ (g:List bP) {m:Nat} (h:m≤g.length):(jf g m).length=g.length:=by
 unfold jf;rw [f6,ae8,(oh _ _).2,ai1];omega
theorem B0 (g:List bP) (m:Nat) (j:Nat):(fF g m).getD (m+j) 0=(cd m (g.drop m)).1.getD j 0:=by
 unfold fF;rw [d7,d7,af4 uZ,af3,ar5]
theorem ON (g:List bP) {m:Nat} (h:m≤g.length) (j:Nat):(jf g m)[m+j]? = (cd m (g.drop m)).2[j]?:=by
 unfold jf;rw [af4 uz,ae8,am8 h,ar5]
theorem OO (g:List bP) {m i:Nat} (h:i<m) (hm:m≤g.length):(jf g m)[i]? = g[i]?:=by
 unfold jf;rw [ag0 uz,ai4,g6 h]
def lu (g:List bP) (m:Nat) (x:bP):bP:=if x.atom≥0 then { x with no:=(fF g (m+1)).getD x.no.toNat 0,yes:=(fF g (m+1)).getD x.yes.toNat 0 } else x
def lv (g:List bP) (m:Nat) (y:bP) (j:Nat) (z:bP):Bool:=(cd (m+1) (g.drop (m+1))).1.getD j 0==((m+1+j:Nat):Int)&&z==y
theorem I4 {g:List bP} (av:qQ g) {m:Nat} {x:bP} (ab:g[m]? = some x) :
  cd m (g.drop m)=((match mN (lv g m (lu g m x)) 0 (cd (m+1) (g.drop (m+1))).2 with
   | some j=>((m+1+j:Nat):Int)
   | none=>(m:Int))::(cd (m+1) (g.drop (m+1))).1,lu g m x::(cd (m+1) (g.drop (m+1))).2):=by
 have au:m<g.length:=(ae2.1 ab).1;have ax:g.drop m=x::g.drop (m+1):=by
  rw [at5 au,(ae2.1 ab).2]
 rw [ax,cd];have ay:(if x.atom≥0 then { x with no:=(cd (m+1) (g.drop (m+1))).1.getD (x.no.toNat-(m+1)) 0,yes:=(cd (m+1) (g.drop (m+1))).1.getD (x.yes.toNat-(m+1)) 0 } else x)=lu g m x:=by
  unfold lu;split
  ·rename_i h
   have:=av.eX m x ab h;rw [← B0,← B0,show m+1+(x.no.toNat-(m+1))=x.no.toNat by omega,show m+1+(x.yes.toNat-(m+1))=x.yes.toNat by omega]
  ·rfl
 simp only [ay];rfl
theorem YG (x y:bP):(x==y)=(decide (x.atom=y.atom)&&(decide (x.no=y.no)&&(decide (x.yes=y.yes)&&x.ms==y.ms))):=by
 obtain ⟨a,b,c,d⟩:=x;obtain ⟨c7,aY,pH,c9⟩:=y;rw [af7];simp
theorem gn {α:Type} {l:List α} {m:Nat} {x:α} (h:l[m]? = some x):l.set m x=l:=by
 apply aq6;intro j;rw [au6];split
 ·rename_i e
  subst e;have:=(ae2.1 h).1;rw [g6 this,h]
 ·rfl
theorem I5 {g:List bP} {m:Nat} {k:Int} {r:List Int} {ys:List bP} (h:cd m (g.drop m)=(k::r,ys)) (ad:(cd (m+1) (g.drop (m+1))).1=r):(fF g (m+1)).set m k=fF g m:=by
 unfold fF;rw [h,ad,ap1,ah0,al8 _ _ uZ,af3,ap9];rfl
theorem OP {g:List bP} {m:Nat} {y:bP} {r:List bP} {ks:List Int} (au:m<g.length) (h:cd m (g.drop m)=(ks,y::r)) (ad:(cd (m+1) (g.drop (m+1))).2=r):(jf g (m+1)).set m y=jf g m:=by
 unfold jf;rw [h,ad,List.take_add_one,f7 au,ah0,al8 _ _ uz,ae8,am8 af,ap9];rfl
theorem B1:∀ (l:List bP) (i k:Nat) (z:bP),(cd i l).2[k]? = some z→∃ x∈l,z.ms=x.ms
  | [],i,k,z,h=>by rw [cd] at h;cases h
  | x::r,i,0,z,h=>by
    rw [cd] at h;simp only [List.getElem?_cons_zero,ao1.injEq] at h;refine ⟨x,i6,?_⟩;rw [← h];split<;>rfl
  | x::r,i,k+1,z,h=>by
    rw [cd] at h;simp only [List.getElem?_cons_succ] at h;obtain ⟨y,U,ad⟩:=B1 r (i+1) k z h;exact ⟨y,i0 _ U,ad⟩
theorem OQ (g:List bP) (m:Nat) (x:bP):(lu g m x).ms=x.ms:=by unfold lu;split<;>rfl
end Go.Proofs.YtnafpeohfbglmaaGreat
