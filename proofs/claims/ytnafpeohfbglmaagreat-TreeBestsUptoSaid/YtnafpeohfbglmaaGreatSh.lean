import Derived.Test.YtnafpeohfbglmaaGreatSg
set_option linter.unusedVariables false
set_option linter.unusedSimpArgs false
set_option maxRecDepth 100000
set_option maxHeartbeats 4000000
open Bool renaming and_assoc→az1,and_eq_true→f8,and_false→ak8,and_true→aq5,eq_false_iff→ah4,eq_iff_iff→af7,false_and→f9,false_eq_true→af8,false_or→ag6,not_eq_false'→aA9,not_eq_true'→ai5,not_false→aj3,not_not→aA8,not_true→ak2,or_assoc→ar8,or_eq_false_iff→al1,or_eq_true→aj1,or_false→am3,or_true→ap2,true_and→f5,true_or→ak3
open Int renaming le_refl→ak9,ofNat→aq1,tdiv_eq_ediv_of_nonneg→ax0,tmod_eq_emod_of_nonneg→aw',toNat_natCast→ae1
open Go.IntKind renaming wrap→t7
open List renaming all_cons→ak6,all_eq_true→ah2,all_nil→ao3,any_cons→aj8,any_eq_false→ak',any_eq_true→ag4,any_nil→aA6,append_nil→d6,cons_append→aa',contains_append→an9,contains_iff_mem→ah8,filter_append→ao7,filter_congr→aB1,filter_cons→ah9,filter_eq_nil_iff→ay6,filter_eq_self→av',filter_filter→as3,filter_nil→at4,foldl_append→ao0,foldl_cons→ah7,foldl_nil→au4,getD_eq_getElem?_getD→d7,getElem?_append_right→af4,getElem?_eq_getElem→f7,getElem?_map→ae4,getElem?_of_mem→ai0,getElem?_range→ar3,getElem?_set_ne→an8,getElem?_set_self→aj9,getElem_mem→an6,isEmpty_iff→ax6,length_append→f6,length_cons→g9,length_filter_le→aj2,length_map→d9,length_nil→af6,length_range→ap5,length_set→af1,length_take→ae8,map_append→ad',map_cons→ae3,map_map→au1,map_nil→ah1,map_set→al',mem_append→ae',mem_cons_of_mem→i0,mem_cons_self→i6,mem_filter→ah6,mem_map→af',mem_of_getElem?→d5,mem_of_mem_take→ap0,mem_or_eq_of_mem_set→aj7,mem_range→ak5,mem_singleton→H1,nil_append→d8,range_succ→aq2,range→ag3,set_cons_succ→at',set_cons_zero→ar',set_set→ar1,take_add_one→am2,take_length→ae5
open Nat renaming add_zero→ao',blt→t8,eq_of_testBit_eq→an7,le_refl→g8,le_trans→am',lt_of_le_of_lt→ak1,lt_or_ge→aq',lt_succ_iff_lt_or_eq→ah5,lt_succ_self→aj6,mul_assoc→az5,mul_comm→av2,mul_one→ag',not_lt_zero→an2,or_lt_two_pow→aj4,pow_le_pow_right→ag2,pow_lt_pow_right→ai',pow_succ→ao2,shiftRight_le→ap3,sub_self→ap9,testBit_and→al9,testBit_or→am4,testBit_two_pow_sub_one→ai3,testBit_two_pow→al7,testBit_xor→ar9,zero_add→af5,zero_le→g7,zero_testBit→aq9
open Option renaming getD_some→af9,some→ao1
open Go.Sem renaming run_bind→ac'
open Go.Proofs.Tryz renaming prog→d0
namespace Go.Proofs.YtnafpeohfbglmaaGreat
theorem Cr {p:Prop} (h:p:=by repeat (first|exact trivial|refine ⟨⟨_,rfl,aJ⟩,?_⟩|refine ⟨⟨_,rfl,aQ.of_eq (by (first|rw [h7 (by omega)]|(congr 1;(try rw [dm]);show _=max _ _;split<;>omega)|(congr 1;(try rw [dm]);show _=min _ _;split<;>omega)|rw [List.map_append];rfl))⟩,?_⟩)):p:=h
theorem P8 {p:Prop} (h:p:=by repeat (first|exact trivial|refine ⟨⟨_,rfl,aJ⟩,?_⟩|refine ⟨⟨_,rfl,aQ.of_eq (by (first|rw [h7 (by omega)]|(show _=lr (bW.test _ _ _);rw [lr,DL,JM])))⟩,?_⟩)):p:=h
theorem JN {p:Prop} (h:p:=by repeat (first|exact trivial|refine ⟨⟨_,rfl,aJ⟩,?_⟩|refine ⟨⟨_,rfl,aQ.of_eq (by (first|rw [h7 (by omega)]|rw [dz (by omega) (by omega)]))⟩,?_⟩)):p:=h
theorem P9 {p:Prop} (h:p:=by repeat (first|exact trivial|refine ⟨⟨_,rfl,aJ⟩,?_⟩|refine ⟨⟨_,rfl,aQ.of_eq (by (first|rw [h7 (by omega)]|(rw [aI];exact P'.symm)))⟩,?_⟩)):p:=h
theorem Qa {p:Prop} (h:p:=by repeat (first|exact trivial|refine ⟨⟨_,rfl,aJ⟩,?_⟩|refine ⟨⟨_,rfl,aQ.of_eq (by (first|rw [h7 (by omega)]|(rw [pC])|rfl))⟩,?_⟩)):p:=h
theorem JO {p:Prop} (h:p:=by repeat (first|exact trivial|refine ⟨⟨_,rfl,aJ⟩,?_⟩|refine ⟨⟨_,rfl,aQ.of_eq (by (first|rw [h7 (by omega)]|(rw [aI])))⟩,?_⟩)):p:=h
theorem Fj {p:Prop} (h:p:=by repeat (first|exact trivial|refine ⟨⟨_,rfl,aJ⟩,?_⟩|refine ⟨⟨_,rfl,aQ.of_eq (by (first|rw [h7 (by omega)]|rw [om]))⟩,?_⟩)):p:=h
theorem JP {p:Prop} (h:p:=by repeat (first|exact trivial|refine ⟨⟨_,rfl,aJ⟩,?_⟩|refine ⟨⟨_,rfl,aQ.of_eq (by (first|rw [h7 (by omega)]|rw [aI]))⟩,?_⟩)):p:=h
theorem Qb {p:Prop} (h:p:=by simp only [eo,eh,dd];exact aX):p:=h
theorem zL {p:Prop} (h:p:=by simp only [fU];exact aX):p:=h
theorem Qc {p:Prop} (h:p:=by repeat (first|exact trivial|refine ⟨⟨_,rfl,aJ⟩,?_⟩|refine ⟨⟨_,rfl,aQ.of_eq (by (rw [ad7]))⟩,?_⟩)):p:=h
theorem Cs {p:Prop} (h:p:=by simp only [List.length_append,List.length_cons,List.length_nil];exact aG.all _):p:=h
theorem Qd {p:Prop} (h:p:=by show aG _ [(_,.row _ _ (out++[x]).length)] _;rw [List.length_append];exact aX):p:=h
theorem Ct {p:Prop} (h:p:=by rw [mQ,Nat.mul_one];exact Bt fun k=>rfl):p:=h
theorem qU {p:Prop} (h:p:=by show vs.length-(j+1)<vs.length-j;omega):p:=h
theorem qV {p:Prop} (h:p:=by show M.length-(j+1)<M.length-j;omega):p:=h
theorem vI {p:Prop} (h:p:=by show l.length-(i+1)<l.length-i;omega):p:=h
theorem zM {p:Prop} (h:p:=by show L.length-(j+1)<L.length-j;omega):p:=h
theorem Fk {p:Prop} (h:p:=by show L.length-(k+1)<L.length-k;omega):p:=h
theorem zN {p:Prop} (h:p:=by show A-(j+1)<A-j;omega):p:=h
def JQ (p:bT) (n:Int):ag := .cw [if hy p n=0 then dd (ct p n) else .aA 0 [] .nil,.int .i64 (hy p n)]
def JR (p:bT) (n:Int):ag := .cw [if hy p n=0 then .aA 1 (ic (hF (ca p) (ct p n))) .bb else .aA 0 [] .nil,.int .i64 (hy p n)]
def JS (p:bT) (n v:Int):Bool:=decide (0≤v)&&(decide (v<((2^(ct p n).length:Nat):Int))&&mW (ca p) (ct p n) v.toNat)
def Cu (p:bT) (n v:Int):Int:=if hy p n=0 then (if JS p n v then 0 else 5) else hy p n
def JT (p:bT) (n v:Int):ag := .cw [if Cu p n v=0 then bd (dp p n (ct p n) v.toNat) else .aA 0 [] .nil,.int .i64 (Cu p n v)]
theorem zO {p:bT} {n:Int} (he:hy p n=0):gA p=true∧(ct p n).length≤7∧iD (ca p) (ct p n)∧(ct p n).Nodup∧Cl p n (ct p n):=by
 obtain ⟨U,-,ad⟩:=aat he;exact ⟨U,ad,(JD U n).1,Z7 p n,aas p n⟩
theorem aau (p:bT) (aF:ga p) (n:Int):aT d0 27 [cW p,.int .i64 n] (JR p n):=by
 have an:=bD;refine aT.bh ah Tryz.func27 C C fun s I=>?_
 have a6:=E8 p aF n;unfold JR;unfold cW cZ at *;refine dt ?_;refine aa.bX rfl rfl rfl rfl rfl a6 I .nil ?_ (fun _ _ h _=>by rcases h with ⟨_,_,_,_,h,_⟩|⟨_,⟨_,h⟩,_⟩<;>cases h);rintro _ _ (⟨he,cr,an,cb,⟨⟩,rfl⟩|⟨he,⟨v,⟨⟩⟩,rfl⟩) I
 ·rw [he,g6 C]
  obtain ⟨dk,fq,cX,e7,gh⟩:=zO he;have ll:=JJ p aF dk n (ct p n) an cb cr fq cX e7 gh;simp only [aa',d8] at I ⊢;unfold eo eh dd at *;refine bl ?_;refine aa.bX rfl rfl rfl rfl rfl ll I aX ?_ (fun _ _ ⟨h,_⟩ _=>by cases h);rintro _ _ ⟨⟨⟩,rfl⟩ I;simp only [aa',d8] at I ⊢;refine cC I ?_;intro I;exact bB I
 ·rw [f0 he]
  simp only [d8] at I ⊢;refine ed ?_;refine ae.cond C (fun _=>?_) (fun h=>absurd e2 he);refine gX ?_;exact bB I
theorem Qe (p:bT) (aF:ga p) (n v:Int):aT d0 29 [cW p,.int .i64 n,.int .i64 v] (JT p n v):=by
 have an:=bD;refine aT.bh ah Tryz.func29 C C fun s I=>?_
 have a6:=E8 p aF n;have hm:Cu p n v=if hy p n=0 then (if JS p n v then 0 else 5) else hy p n:=rfl
 unfold JT;unfold cW cZ at *;refine dt ?_;refine aa.bX rfl rfl rfl rfl rfl a6 I .nil ?_ (fun _ _ h _=>by rcases h with ⟨_,_,_,_,h,_⟩|⟨_,⟨_,h⟩,_⟩<;>cases h);rintro _ _ (⟨he,cr,an,cb,⟨⟩,rfl⟩|⟨he,⟨v,⟨⟩⟩,rfl⟩) I
 ·obtain ⟨dk,fq,cX,e7,gh⟩:=zO he
  have p4:2^(ct p n).length≤2^7:=ag2 af fq;rw [g6 he] at hm;have aw:JS p n v=(decide (0≤v)&&(decide (v<((2^(ct p n).length:Nat):Int))&&mW (ca p) (ct p n) v.toNat)):=rfl;simp only [aa',d8] at I ⊢;unfold eh dd at I ⊢;refine bl ?_;by_cases U:v<0
  ·refine aa.dY 23 C (i7 U) ?_
   rw [aw,show decide (0≤v)=false by simp;omega,f9,f0 ba] at hm;rw [hm,f0 ba];refine bl ?_;exact bB I
  refine aa.dh 23 C (ab' U) ?_;obtain ⟨u,rfl⟩:∃ u:Nat,v=u:=⟨v.toNat,by omega⟩;rw [i7 (Int.natCast_nonneg u),f5,ae1] at aw;rw [ae1];refine cC I ?_;intro I;refine aa.shl ((2^(ct p n).length:Nat):Int) C C C C C C af (by rw [d9];exact Fh fq) ?_;refine dU ?_;by_cases ad:(u:Int)<((2^(ct p n).length:Nat):Int);rotate_left
  ·refine aa.dY 33 C (i7 (Int.not_lt.1 ad)) ?_
   rw [aw,ab' ad,f9,f0 ba] at hm;rw [hm,f0 ba];refine bl ?_;exact bB I
  refine aa.dh 33 C (ab' (Int.not_le.2 ad)) ?_;have al:u<2^(ct p n).length:=Int.ofNat_lt.1 ad;rw [i7 ad,f5] at aw;have sP:=PU p dk n (ct p n) (.aA 0 [] .nil) an cb cr fq cX e7 u af;have zA:=PG p aF dk n (ct p n) (.aA 0 [] .nil) an cb cr fq cX gh u af;unfold eo eh dd at sP zA;refine dU ?_;refine aa.bX rfl rfl rfl rfl rfl sP I aX ?_ (fun _ _ ⟨h,_⟩ _=>by cases h);rintro _ _ ⟨⟨⟩,rfl⟩ I;simp only [aa',d8] at I ⊢;cases aB:mW (ca p) (ct p n) u with
  | false=>
   rw [aw,aB,f0 ba] at hm;rw [hm,f0 ba];refine bl ?_;exact bB I
  | true=>
   rw [aw,aB,g6 C] at hm;rw [hm,g6 C];refine bl ?_;refine aa.bX rfl rfl rfl rfl rfl zA I aX ?_ (fun _ _ ⟨h,_⟩ _=>by cases h);rintro _ _ ⟨⟨⟩,rfl⟩ I;simp only [aa',d8] at I ⊢;refine er ?_;exact bB I
 ·rw [f0 he] at hm
  rw [hm,f0 he];simp only [d8] at I ⊢;refine bl ?_;refine ae.cond C (fun _=>?_) (fun h=>absurd e2 he);refine kp ?_;exact bB I
def qW (p:bT) (n:Int) (l:List ak) (an cb cr:Nat) (vs:List Nat):a':=[eo p n (dd l) (.aA 1 (ic vs) .bb) an cb cr,(.own an,.map (Cp p n l vs))]
def aav:Option Nat→Int
 | none => -1
 | some v=>v
theorem Qf (g:Nat→ag):∀ vs:List Nat,jj (vs.map fun u:Nat=>(.int .i64 (u:Int),g u)) (.int .i64 (-1))=some none
  | []=>rfl
  | u::r=>by
    rw [ae3,jj];have hu:((-1:Int)==(u:Int))=false:=by rw [beq_eq_false_iff_ne];omega
    simp only [kj,ag7,hu,Qf g r]
def aaw (h:Nat→List Int) (vs rest:List Nat):Option Nat→Prop
 | none=>vs=rest
 | some v=>lq h vs=rest.all (fun u=>h u==h v)∧firstM h vs=h v
theorem aax (p:bT) (n:Int) (l:List ak) (an cb cr:Nat) (vs:List Nat) (eP:∀ v∈vs,v<128) (fC:vs.length≤128) (ht:p.methods.length≤16) (q:Nat→Bool) :
    bA d0 105 [.ptr cr 0,lx q] (qW p n l an cb cr vs) (fun o K=>o = .ret (if lq (dp p n l) (vs.filter q) then .cw [bd (firstM (dp p n l) (vs.filter q)),.bool true] else .cw [.aA 0 [] .nil,.bool false])∧K=qW p n l an cb cr vs):=by
  have lD:bC=1099511627776:=rfl;have tZ:=fun v h=>aam q v h
  have Qg:=fun v=>zJ n l v p.methods 0
  refine bA.bh ah Tryz.func105 C C fun s I=>?_
  unfold qW eo eh dd at *;refine hD I ?_;intro I;refine ae.b5 [0,3,12,13] C I (σ:=Nat×Option Nat) (fun x=>[(14,.int .i64 (x.1:Int)),(6,.int .i64 (aav x.2))]) (fun _=>qW p n l an cb cr vs) (fun x=>x.1≤vs.length∧(∀ v,x.2=some v→v∈vs)∧aaw (dp p n l) (vs.filter q) ((vs.drop x.1).filter q) x.2) (fun x=>vs.length-x.1) (0,none)
    ⟨g7 _,(fun _ h=>by cases h),rfl⟩ (cl rfl) (by simp only [qW,eo,eh,dd];exact aX) ?_
  rintro ⟨j,fst⟩ ⟨aL,a7,aq⟩ I;simp only [qW,eo,eh,dd] at aL a7 aq I ⊢;refine b7 ?_;refine ae.cond C (fun au=>?_) (fun aV=>?_);rotate_left
  · have aV:j=vs.length:=by simp [ic] at aV;omega
    rw [eD af,at4] at aq;cases fst with
    | none=>
      have aq:vs.filter q=[]:=aq;rw [aq,lq,firstM,g6 C];have av:=Qf (fun v=>bd (dp p n l v)) vs;refine cC I ?_;intro I;refine aa.jD ah I C C C C C C C C C C aW C av C ?_;refine er ?_;exact Fin.bs I C (aQ.cw (.cons aQ.empty (.cons aJ .nil))) (aG.all _) ⟨rfl,rfl⟩
    | some v=>
      obtain ⟨U,ad⟩:=aq;rw [U,ad,ao3,g6 C];have av:=Fg (fun v=>bd (dp p n l v)) v vs;rw [g6 (by simpa using a7 v C)] at av;refine cC I ?_;intro I;refine aa.jD ah I C C C C C C C C C C aW C av C ?_;refine er ?_;exact Fin.bs I C aJ (aG.all _) ⟨rfl,rfl⟩
  have au:j<vs.length:=by simpa [ic] using au
  obtain ⟨x,ab,bL⟩:=b8 (f:=fun v:Nat=>ag.int .i64 (v:Int)) au;have E2:=d5 ab;have aay:=eP x E2;have cY:=tZ x aay;rw [drop_cons ab,ah9] at aq;unfold ic at *;refine c2 ?_;cases br:q x with
  | false=>
    rw [br,f0 ba] at aq;refine bl ?_;exact bn.mk (j+1,fst) I ⟨au,a7,aq⟩ cj aX qU
  | true=>
    rw [br,g6 C] at aq;cases fst with
    | none=>
      refine bl ?_
      exact bn.mk (j+1,some x) I ⟨au,(fun v h=>by cases h;exact E2),by
        have aq:vs.filter q=_:=aq
        refine ⟨?_,?_⟩
        · rw [aq];rfl
        · rw [aq];rfl⟩ cj aX qU
    | some v=>
      obtain ⟨U,ad⟩:=aq;rw [ak6] at U;have av:=fun u hu=>by
        have:=Fg (fun v=>bd (dp p n l v)) u vs;rw [g6 (by simpa using hu)] at this;exact this
      have Cg:=av x E2;have Dw:=av v (a7 v C);have heq:=A1 (dp p n l x) (dp p n l v) (by have:=Qg x;unfold dp;omega) (by have:=Qg v;unfold dp;omega);cases aB:dp p n l x==dp p n l v with
      | false=>
        rw [aB] at heq U;rw [U,f9,f0 ba];refine hD I ?_;intro I;refine aK.jD ah I C C C C C C C C C C aW C Cg C ?_;refine cC I ?_;intro I;refine aK.jD ah I C C C C C C C C C C aW C Dw C ?_;refine b' ?_;exact Fin.bs I C aJ (aG.all _) ⟨rfl,rfl⟩
      | true=>
        rw [aB] at heq U;rw [f5] at U;refine hD I ?_;intro I;refine aK.jD ah I C C C C C C C C C C aW C Cg C ?_;refine cC I ?_;intro I;refine aK.jD ah I C C C C C C C C C C aW C Dw C ?_;refine b' ?_;exact bn.mk (j+1,some v) I ⟨au,a7,U,ad⟩ cj aX qU
theorem aaz (fv:ag) (xs:List Int) (K:a') (q:Int→Bool) (aC:xs.length<bC) (h:∀ x∈xs,dA d0 fv [a8 x] K (fun o aO=>o = .ret (.bool (q x))∧aO=K)) :
  bA d0 40 [.aA 1 (xs.map a8) .bb,fv] K (fun o aO=>o = .ret (.bool (xs.any q))∧aO=K):=by
 have:=Mx fv xs (fun _=>K) (fun j=>match xs[j]? with|some x=>q x|none=>false) aC (fun j x ab _=>by rw [ab];exact h x (d5 ab));refine bA.mono this ?_;rintro o aO (⟨rfl,rfl,U⟩|⟨j,U,ad,al,rfl,rfl⟩)
 ·have:xs.any q=false:=by
   rw [ak'];intro x ab;obtain ⟨i,aR⟩:=ai0 ab;have:=U i (qs aR);rw [aR] at this;simpa using this
  rw [this];exact ⟨rfl,rfl⟩
 ·have ab:=f7 U
  rw [ab] at ad;rw [ag4.2 ⟨_,d5 ab,ad⟩];exact ⟨rfl,rfl⟩
def vJ (p:bT) (n:Int) (l:List ak) (g:List bP) (v:Nat):Bool:=(g.getD (leads g v).1.toNat default).ms==dp p n l v
theorem aaA (p:bT) (n:Int) (l:List ak) (an cb cr:Nat) (vs:List Nat) (vG:p.methods.length≤16) (g:List bP) (av:jI g=true) (v:Nat) (aw:v∈vs) (aaB:v<2^63) :
  dA d0 (.func 121 [] [.bw [hv g] 0,.bw [.ptr cr 0] 0]) [.int .i64 (v:Int)] (qW p n l an cb cr vs) (fun o K=>o = .ret (.bool (!vJ p n l g v))∧K=qW p n l an cb cr vs):=by
 have lD:bC=1099511627776:=rfl;have o8:=Ox g av v aaB;obtain ⟨j,x,U,ad,-⟩:=Oz av v;have ht:=zJ n l v p.methods 0;have fm:x.ms.length≤16:=by
  have az:=xe av ad;by_cases a6:x.atom = -1
  ·exact ((tS a6).1 az).2.2.1
  ·have:=((pR a6).1 az).2.2.2.2.2.2
   omega
 have heq:=A1 x.ms (dp p n l v) af (by unfold dp;omega);have yU:vJ p n l g v=(x.ms==dp p n l v):=by
  unfold vJ;rw [U,ae1,d7,ad];rfl
 have uj:=Fg (fun v=>bd (dp p n l v)) v vs;rw [g6 (by simpa using aw)] at uj;have bL:(g.map eN)[j]? = some (eN x):=by rw [ae4,ad];rfl
 rw [U] at o8;refine dA.fx (first:=[]) (cap:=[.bw [hv g] 0,.bw [.ptr cr 0] 0]) ?_;refine bA.bh ah Tryz.func121 C C fun s I=>?_
 unfold qW eo eh dd hv at *;unfold eN ha at bL;rw [yU];cases aB:x.ms==dp p n l v with
 | true=>
  rw [aB] at heq;refine hD I ?_;intro I;refine aK.jD ah I C C C C C C C C C C aW C uj C ?_;refine c2 ?_;exact Fin.bs I C aJ (aG.all _) ⟨rfl,rfl⟩
 | false=>
  rw [aB] at heq;refine hD I ?_;intro I;refine aK.jD ah I C C C C C C C C C C aW C uj C ?_;refine c2 ?_;exact Fin.bs I C aJ (aG.all _) ⟨rfl,rfl⟩
theorem aaC (p:bT) (aF:ga p) (dk:gA p=true) (n:Int) (l:List ak) (an cb cr:Nat) (fq:l.length≤7) (cX:iD (ca p) l) (e7:l.Nodup) (gh:Cl p n l) (g:List bP) (av:jI g=true) :
    bA d0 73 [.ptr cr 0,hv g] [eo p n (dd l) (.aA 0 [] .nil) an cb cr,(.own an,.map [])] (fun o K=>o = .ret (.bool (g.all (fun x=>decide (x.atom<(l.length:Int)))&&(hF (ca p) l).all (vJ p n l g)))∧∃ EM m,K=[eo p n (dd l) EM an cb cr,(.own an,.map m)]):=by
  have lD:bC=1099511627776:=rfl;have p4:2^l.length≤2^7:=ag2 af fq;obtain ⟨n6,kU⟩:=Bh av;have ll:=JJ p aF dk n l an cb cr fq cX e7 gh;have fC:=Cq (ca p) l;have eP:∀ v∈hF (ca p) l,v<2^l.length:=fun v h=>Fi h
  have vG:=(uk dk).1;generalize hF (ca p) l=vs at *
  have p3:=aaz (.func 121 [] [.bw [hv g] 0,.bw [.ptr cr 0] 0]) (vs.map fun v:Nat=>(v:Int)) (qW p n l an cb cr vs) (fun z => !vJ p n l g z.toNat) pV (fun z bG=>by
    obtain ⟨v,aw,rfl⟩:=af'.1 bG
    have:=eP v aw
    exact aaA p n l an cb cr vs vG g av v aw af)
  have Fl:(vs.map fun v:Nat=>(v:Int)).map a8=ic vs:=by rw [au1];rfl
  have aaD:(vs.map fun v:Nat=>(v:Int)).any (fun z => !vJ p n l g z.toNat) = !vs.all (vJ p n l g):=by
    rw [List.any_map,List.all_eq_not_any_not,aA8];rfl
  rw [Fl,aaD] at p3;refine bA.bh ah Tryz.func73 C C fun s I=>?_
  unfold qW eo eh dd hv at *;refine fP ?_;refine ae.b5 [2,3,7,8] C I (σ:=Nat) (fun j=>[(9,.int .i64 (j:Int))]) (fun _=>[eo p n (dd l) (.aA 0 [] .nil) an cb cr,(.own an,.map [])]) (fun j=>j≤g.length∧g.all (fun x=>decide (x.atom<(l.length:Int)))=(g.drop j).all (fun x=>decide (x.atom<(l.length:Int)))) (fun j=>g.length-j) 0 ⟨g7 _,rfl⟩ (cl C) Qb ?_;rintro j ⟨aL,aq⟩ I;simp only [eo,eh,dd] at aL aq I ⊢;refine b7 ?_;refine ae.cond C (fun au=>?_) (fun aV=>?_);rotate_left
  · have aV:j=g.length:=by simp at aV;omega
    rw [eD af,ao3] at aq;rw [aq,f5];refine bl ?_;refine aa.bX rfl rfl rfl rfl rfl ll I aX ?_ (fun _ _ ⟨h,_⟩ _=>by cases h);rintro _ _ ⟨⟨⟩,rfl⟩ I;simp only [aa',d8] at I ⊢;refine cC I ?_;intro I;refine aa.bX rfl rfl rfl rfl rfl p3 I aX ?_ (fun _ _ ⟨h,_⟩ _=>by cases h);rintro _ _ ⟨⟨⟩,rfl⟩ I;simp only [aa',d8] at I ⊢;refine er ?_;exact Fin.bs I C (aQ.of_eq ba) (aG.all _) ⟨rfl,_,_,rfl⟩
  have au:j<g.length:=by simpa using au
  obtain ⟨x,ab,bL⟩:=b8 (f:=eN) au;rw [drop_cons ab,ak6] at aq;unfold eN ha bd at bL;refine LC I ?_;intro I;refine ae.cond C (fun aB=>?_) (fun aB=>?_)
  · rw [show decide (x.atom<(l.length:Int))=false by simp at aB ⊢;omega,f9] at aq
    rw [aq,f9];refine kp ?_;exact Fin.bs I C aJ (aG.all _) ⟨rfl,_,_,rfl⟩
  · rw [show decide (x.atom<(l.length:Int))=true by simp at aB ⊢;omega,f5] at aq
    refine gx ?_;exact bn.mk (j+1) I ⟨au,aq⟩ cj aX AM
theorem aaE (v:Int×Int) (n:Int):aT d0 160 [gk v,.int .i64 n] (.bool (hO n v)):=by
 have an:=bD;refine aT.bh ah Tryz.func160 C C fun s I=>?_
 unfold gk
 repeat' (first|(with_reducible first|apply ae.seq|apply b0|apply fY|apply fh|apply hC|apply ae.ret|apply ae.skip|apply ae.block)|refine c4 C ?_|refine ae.cF ?_|refine aa.nil ?_|refine cv C ?_|refine aa.skip C C C ?_|(fail_if_success refine aa.same true C ?_);(fail_if_success refine aa.same false C ?_);refine aa.hh C C (fun h=>?_) (fun h=>?_)|refine ae.cond C (fun h=>?_) (fun h=>?_))
 all_goals (refine Fin.cB I C (aQ.of_eq (ae7 ag.bool ?_));clear I;simp only [hO,kN];grind)
theorem aaF (fv:ag) (q:Int→Bool) (xs:List Int) (aC:xs.length<bC) (h:∀ x∈xs,eF d0 fv [a8 x] (.bool (q x))):aT d0 161 [.aA 1 (xs.map a8) .bb,fv] (.aA 1 ((xs.filter q).map a8) .bb):=by
 have an:=bD;refine aT.bh ah Tryz.func161 C C fun s I=>?_
 refine fP ?_;refine ae.h0 I 3 1 0 fun I=>?_
 refine ae.b5 [0,1,8,9] C I (σ:=Nat×List Int×bN) (fun p=>[(10,.int .i64 (p.1:Int)),(5,.aA 1 (p.2.1.map a8) p.2.2)]) (fun p=>[(p.2.2,.row 3 1 p.2.1.length)]) (fun p=>p.1≤xs.length∧p.2.1.length≤p.1∧xs.filter q=p.2.1++(xs.drop p.1).filter q) (fun p=>xs.length-p.1) (0,[],.nil)
  ⟨g7 _,g8 _,rfl⟩ ⟨⟨_,rfl,aJ⟩,⟨_,rfl,aQ.nil gN⟩,trivial⟩ aX ?_
 rintro ⟨j,out,gl⟩ ⟨aL,fZ,aq⟩ I;simp only at aL fZ aq I ⊢;refine b7 ?_;refine ae.cond C (fun au=>?_) (fun aV=>?_);rotate_left
 ·have aV:j=xs.length:=by simp at aV;omega
  rw [eD af,at4,d6] at aq;rw [aq];have cy:=HR (out.map a8) gl;refine c2 ?_;exact Fin.cB I C aQ.bb
 have au:j<xs.length:=by simpa using au
 obtain ⟨x,ab,bL⟩:=b8 (f:=a8) au;have aw:=h x (d5 ab);rw [drop_cons ab,ah9] at aq
 try rw [a8] at aw bL
 refine c2 ?_;cases br:q x with
 | true=>
  rw [br] at aq aw;rw [g6 C] at aq;refine bl ?_;refine aa.fO ah I C C C C C C C di C C C C C C C C aW gY jS af (fun bR I=>?_);refine fj ?_;exact bn.mk (j+1,out++[x],.own bR) I ⟨au,by simp;omega,by rw [aq];simp⟩ yK Qd sl
 | false=>
  rw [br] at aq aw;rw [f0 ba] at aq;refine j8 ?_;exact bn.mk (j+1,out,gl) I ⟨au,by show out.length≤j+1;omega,aq⟩ cj aX sl
theorem aaG (fv:ag) (q:(Int×Int)→Bool) (xs:List (Int×Int)) (aC:xs.length<bC) (h:∀ x∈xs,eF d0 fv [gk x] (.bool (q x))):aT d0 158 [.aA 2 (xs.map gk) .bb,fv] (.aA 2 ((xs.filter q).map gk) .bb):=by
 have an:=bD;refine aT.bh ah Tryz.func158 C C fun s I=>?_
 refine fP ?_;refine ae.h0 I 122 2 0 fun I=>?_
 refine ae.b5 [0,1,8,9] C I (σ:=Nat×List (Int×Int)×bN) (fun p=>[(10,.int .i64 (p.1:Int)),(5,.aA 2 (p.2.1.map gk) p.2.2)]) (fun p=>[(p.2.2,.row 122 2 p.2.1.length)]) (fun p=>p.1≤xs.length∧p.2.1.length≤p.1∧xs.filter q=p.2.1++(xs.drop p.1).filter q) (fun p=>xs.length-p.1) (0,[],.nil)
  ⟨g7 _,g8 _,rfl⟩ ⟨⟨_,rfl,aJ⟩,⟨_,rfl,aQ.nil gN⟩,trivial⟩ aX ?_
 rintro ⟨j,out,gl⟩ ⟨aL,fZ,aq⟩ I;simp only at aL fZ aq I ⊢;refine b7 ?_;refine ae.cond C (fun au=>?_) (fun aV=>?_);rotate_left
 ·have aV:j=xs.length:=by simp at aV;omega
  rw [eD af,at4,d6] at aq;rw [aq];have cy:=Vw (out.map gk) gl;refine c2 ?_;exact Fin.cB I C aQ.bb
 have au:j<xs.length:=by simpa using au
 obtain ⟨x,ab,bL⟩:=b8 (f:=gk) au;have aw:=h x (d5 ab);rw [drop_cons ab,ah9] at aq
 try rw [gk] at aw bL
 refine et ?_;cases br:q x with
 | true=>
  rw [br] at aq aw;rw [g6 C] at aq;refine bl ?_;refine aa.fO ah I C C C C C C C di C C C C C C C C aW gY (by show (_+1)*16≤_;omega) af (fun bR I=>?_);refine fj ?_;exact bn.mk (j+1,out++[x],.own bR) I ⟨au,by simp;omega,by rw [aq];simp⟩ yK Qd sl
 | false=>
  rw [br] at aq aw;rw [f0 ba] at aq;refine j8 ?_;exact bn.mk (j+1,out,gl) I ⟨au,by show out.length≤j+1;omega,aq⟩ cj aX sl
def mY (p:bT) (mb:Nat):List ag:=cZ p++(fE (ca p)++[.map mb])
theorem aaH (p:bT) (mb:Nat) (n:Int):aT d0 157 [.bw (mY p mb) 0,.int .i64 n] (.bool (pZ p n)):=by
 have an:=bD;refine aT.bh ah Tryz.func157 C C fun s I=>?_
 unfold mY cZ fE pZ bd;by_cases U:n≥0
 ·rw [i7 U,f5]
  refine dt ?_;refine aa.dY 11 C (i7 U) ?_;refine er ?_;refine Fin.cB I C (aQ.of_eq (ae7 ag.bool ?_));rw [d9]
 ·rw [ab' U,f9]
  refine dt ?_;refine aa.dh 11 C (ab' U) ?_;refine ed ?_;exact bB I
theorem aaI (n:Int):aT d0 157 [.mu,.int .i64 n] (.bool false):=by
 have an:=bD;refine aT.bh ah Tryz.func157 C C fun s I=>?_
 refine gX ?_;exact bB I
theorem aaJ (bm:List eV) (v:Int×Int):eF d0 (.func 159 [] [.bw [hx bm] 0]) [gk v] (.bool (hO bm.length v)):=by
 have an:=bD;refine eF.fx (first:=[]) (cap:=[.bw [hx bm] 0]) ?_;refine aT.bh ah Tryz.func159 C C fun s I=>?_
 have h:=aaE v (bm.map jc).length;rw [show hO ((bm.map jc).length:Int) v=hO bm.length v by rw [d9]] at h;unfold gk at *;refine b' ?_;exact bB I
def xM (p:bT) (bm:List eV) (n:Int) (args:List (Int×Int)):Bool:=pZ p n&&(decide ((args.length:Int)=p.ef.getD n.toNat 0)&&pJ (ca p) bm args)
theorem aaK (w:bz):iJ w (.mk 1 0 [] 0 0 [])=true:=by
 unfold iJ;rw [fb,f0 ba,g6 (by rfl),hj]
theorem aaL (w:bz) (bm:List eV) (args:List (Int×Int)):(ob w (.mk 1 0 [] 0 0 []) bm args).2=if pJ w bm args then 0 else 2:=by
 unfold ob;rw [aaK,f5,show decide (lI (.mk 1 0 [] 0 0 [])≤(args.length:Int))=true by simp [lI,jb,ak.c5,ak.op],aq5];split<;>rfl
theorem aaM (p:bT) (aF:ga p) (bq:gA p=false):aT d0 118 [cW p] (.mu):=by
 have an:=bD;refine aT.bh ah Tryz.func118 C C fun s I=>?_
 have hw:=JA p aF;rw [bq] at hw;simp only [af8,ah'] at hw;unfold cW cZ at *;refine et ?_;exact bB I
theorem aaN (p:bT) (aF:ga p) (dk:gA p=true) (mb:Nat) (n:Int) (bm:List eV) (args:List (Int×Int)) (aC:bm.length<bC) (ai:∀ o∈bm,o.bp.length<bC) (a6:args.length<bC) :
  aT d0 119 [.bw (mY p mb) 0,hx bm,.int .i64 n,lh args] (.bool (xM p bm n args)):=by
 have an:=bD;have Qh:=aaH p mb n;have aaO:=aaG (.func 159 [] [.bw [hx bm] 0]) (hO bm.length) args a6 (fun v _=>aaJ bm v);have qX:=H6 (ca p) (x1 dk) (.mk 1 0 [] 0 0 []) du bm args aC ai a6;have aaP:=aaL (ca p) bm args;have nG:xM p bm n args=(pZ p n&&(decide ((args.length:Int)=p.ef.getD n.toNat 0)&&pJ (ca p) bm args)):=rfl;refine aT.bh ah Tryz.func119 C C fun s I=>?_
 rw [ak.b6] at qX;unfold ak.cells fz at qX;cases av:pZ p n with
 | false=>
  rw [av] at Qh nG;rw [nG,f9];unfold mY cZ fE hx lh at *;refine b' ?_;exact bB I
 | true=>
  rw [av] at Qh nG;rw [f5] at nG;unfold pZ at av;simp only [f8,i8] at av;obtain ⟨c,rfl⟩:∃ c:Nat,n=c:=⟨n.toNat,by omega⟩;obtain ⟨a,uj,adw⟩:=b8 (f:=a8) (l:=p.ef) (show c<p.ef.length by omega);have k6:p.ef.getD ((c:Nat):Int).toNat 0=a:=by rw [ae1,d7,uj];rfl
  rw [k6] at nG;unfold mY cZ fE hx lh bd at *;refine b' ?_;by_cases eT:(args.length:Int)=a;rotate_left
  ·refine aa.dY 28 C cV ?_
   rw [nG,ab' eT,f9];refine ed ?_;exact bB I
  refine aa.dh 28 C cV ?_;rw [i7 eT,f5] at nG;cases gh:args.all (hO bm.length) with
  | false=>
   have aaQ:pJ (ca p) bm args=false:=by
    unfold pJ;rw [gh];simp
   rw [aaQ] at nG;rw [nG];have au:(args.filter (hO bm.length)).length<args.length:=by
    rw [List.length_filter_lt_length_iff_exists];obtain ⟨x,ab,h⟩:=List.all_eq_false.1 gh;exact ⟨x,ab,h⟩
   refine c2 ?_;refine ae.cond C (fun _=>?_) (fun h=>by simp at h;omega);refine gX ?_;exact bB I
  | true=>
   have fA:args.filter (hO bm.length)=args:=av'.2 (ah2.1 gh);rw [fA] at aaO;rw [aaP] at qX;refine c2 ?_;refine ae.cond C (fun h=>by simp at h) (fun _=>?_);cases cY:pJ (ca p) bm args with
   | false=>
    rw [cY] at nG qX;simp only [af8,ah'] at qX;rw [nG];refine pD ?_;refine aK.l7 C C C C C qX (.cons aJ (.cons (aQ.agg (.cons aJ (.cons aJ (.cons aQ.empty (.cons aJ (.cons aJ (.one aQ.empty))))))) (.cons aJ (.one aJ)))) ?_;refine hi ?_;exact bB I
   | true=>
    rw [cY] at nG qX;simp only [ag7] at qX;rw [nG];refine pD ?_;refine aK.l7 C C C C C qX (.cons aJ (.cons (aQ.agg (.cons aJ (.cons aJ (.cons aQ.empty (.cons aJ (.cons aJ (.one aQ.empty))))))) (.cons aJ (.one aJ)))) ?_;refine hi ?_;exact bB I
def nH (n:Int):Nat→List h9→List Nat
 | _,[]=>[]
 | i,m::r=>if m.gen=n then i::nH n (i+1) r else nH n (i+1) r
theorem Qi (n:Int):∀ (ms:List h9) (i:Nat),(nH n i ms).length≤ms.length
  | [],_=>g8 _
  | m::r,i=>by
    have:=Qi n r (i+1);rw [nH];split<;>simp<;>omega
theorem Qj (n:Int):∀ (ms:List h9) (i:Nat) (j:Nat),j∈nH n i ms→i≤j∧j<i+ms.length
  | [],i,j,h=>by rw [nH] at h;cases h
  | m::r,i,j,h=>by
    rw [nH] at h;have a1:=Qj n r (i+1) j;rw [g9];split at h
    · rcases List.mem_cons.1 h with rfl|h
      · omega
      · have:=a1 h;omega
    · have:=a1 h;omega
def r4 (i:Nat):ag := .int .i64 (i:Int)
theorem aaR (p:bT) (aF:ga p) (mb:Nat) (n:Int):yL d0 196 [] [.bw [.bw (mY p mb) 0] 0,.bw [.int .i64 n] 0] [] r4 (nH n 0 p.methods):=by
 have an:=bD;have ht:=aF.Eg;intro l Go fJ fQ pF K bk;refine bA.bh ah Tryz.func196 C C fun s I=>?_
 rw [d8] at I ⊢;unfold mY cZ fE at *;refine fP ?_;refine ae.b5 [0,1,2,10,11] C I (σ:=Nat×a') (fun q=>[(12,.int .i64 (q.1:Int))]) (fun q=>q.2) (fun q=>q.1≤p.methods.length∧Go (nH n q.1 (p.methods.drop q.1)) q.2) (fun q=>p.methods.length-q.1) (0,K) ⟨g7 _,bk⟩ (cl C) (aG.all _) ?_;rintro ⟨j,iO⟩ ⟨aL,en⟩ I
 try simp only at aL en I ⊢
 refine b7 ?_;refine ae.cond C (fun au=>?_) (fun aV=>?_);rotate_left
 ·have aV:j=p.methods.length:=by simp at aV;omega
  rw [eD af,nH] at en;refine kL ?_;exact Fin.bs I C aJ (aG.all _) (.inl ⟨rfl,.inl en⟩)
 have au:j<p.methods.length:=by simpa using au
 obtain ⟨m,ab,bL⟩:=b8 (f:=lM) au;rw [drop_cons ab,nH] at en;unfold lM n2 at bL
 repeat (first|(refine DD I ?_;clear I;intro I)|refine aa.eb ah I rfl rfl rfl rfl rfl rfl rfl (fun cH I=>?_))
 by_cases av:m.gen=n
 ·rw [g6 av] at en
  have ay:=pF j _ iO en;unfold r4 at ay;refine aa.dY 21 C (by simpa using av) ?_;refine dU ?_;refine aa.gM C C C C C C ay I (aG.all _).there ?_ ?_
  ·rintro x aO (⟨⟨⟩,h⟩|⟨⟨⟩,h⟩|⟨_,⟨⟩,_⟩) I
   ·refine bl ?_
    exact bn.mk (j+1,aO) I ⟨au,h⟩ cj (aG.jH (aG.dB aO)) o9
   ·refine bl ?_
    exact Fin.bs I C aJ (aG.jH (aG.dB aO)) (.inl ⟨rfl,.inr h⟩)
  ·rintro x aO (⟨h,_⟩|⟨h,_⟩|⟨v,⟨⟩,h⟩) I
   ·cases h
   ·cases h
   exact Fin.fi I aJ (aG.jH (aG.dB aO)) (.inr ⟨_,rfl,h⟩)
 ·rw [f0 av] at en
  refine aa.dh 21 C (by simpa using av) ?_;refine bl ?_;exact bn.mk (j+1,iO) I ⟨au,en⟩ cj (aG.all _).there o9
theorem aaS (p:bT) (mb:Nat) (n:Int):aT d0 163 [.bw (mY p mb) 0,.int .i64 n] (.func 196 [] [.bw [.bw (mY p mb) 0] 0,.bw [.int .i64 n] 0]):=by
 have an:=bD;refine aT.bh ah Tryz.func163 C C fun s I=>?_
 refine gX ?_;exact bB I
theorem aaT (f:FuncId) (cap:List ag) (xs:List Nat) (aC:xs.length<bC) (oI:yL d0 f [] cap [] r4 xs):bA d0 195 [.aA 0 [] .nil,.func f [] cap] [] (fun o K=>o = .ret (.aA 1 (xs.map r4) .bb)∧K=[]):=by
 have an:=bD;refine bA.bh ah Tryz.func195 C C fun s I=>?_
 repeat (first|(refine DE ?_)|refine aa.jC I C C C C C C (fun b I=>?_)|(refine DF ?_))
 obtain ⟨cT,rfl⟩:∃ x,x=b:=⟨_,rfl⟩;refine ae.h0 I 3 1 0 fun I=>?_
 refine ae.qM I [.aA 1 [] .nil] (kb:=cT) aW (.one (aQ.nil gN)) (fun I=>?_);refine ae.G5 I C du oI .nil (fun rem K=>∃ out own,out.length+rem.length=xs.length∧xs=out++rem∧K=[(.own cT,.box 23 [.aA 1 (out.map r4) own]),(own,.row 3 1 out.length)]) (fun _ _=>False) (fun _ _=>False) ⟨[],.nil,by simp,rfl,rfl⟩ ?_ ?_ (fun _ _ h=>h.elim) (fun _ _ h=>h.elim)
 ·rintro s₁ x rem K ⟨out,own,U,ad,rfl⟩ I
  rw [g9] at U;unfold r4 at I ⊢;refine hD I ?_;intro I;refine aa.fO ah I C C C C C C C di C C C C C C C C aW gY jS af (fun bR I=>?_);refine cC I ?_;intro I;exact At.mk [(.own cT,.box 23 [.aA 1 ((out++[x]).map r4) (.own bR)]),(.own bR,.row 3 1 (out++[x]).length)] I (by simp only [r4,ad',ae3,ah1,f6,g9,af6];exact aX) ⟨out++[x],.own bR,by simp;omega,by rw [ad];simp,rfl⟩
 ·rintro K ⟨out,own,U,ad,rfl⟩ I
  rw [d6] at ad;subst ad;refine cC I ?_;intro I;exact Fin.bs I C aQ.bb .nil ⟨rfl,rfl⟩
def Cv (p:bT) (bm:List eV) (args:List (Int×Int)) (i:Int):Bool:=(ob (ca p) (p.methods.getD i.toNat default).fact bm args).1&&(ob (ca p) (p.methods.getD i.toNat default).fact bm args).2==0
def JU (p:bT) (bm:List eV) (n:Int) (args:List (Int×Int)):List Int:=((nH n 0 p.methods).map fun i:Nat=>(i:Int)).filter (Cv p bm args)
theorem aaU (p:bT) (aF:ga p) (dk:gA p=true):bA d0 118 [cW p] [] (fun o K=>∃ mb,o = .ret (.bw (mY p mb) 0)∧K=[(.own mb,.map [])]):=by
 have hw:=JA p aF;rw [dk,g6 C,g6 C] at hw;refine bA.bh ah Tryz.func118 C C fun s I=>?_
 unfold cW cZ mY fz fE at *;refine et ?_;refine aa.sj I C C C C (fun mb I=>?_);refine er ?_;exact Fin.bs I C aJ (aG.all _) ⟨mb,rfl,rfl⟩
theorem aaV (p:bT) (aF:ga p) (dk:gA p=true) (mb:Nat) (bm:List eV) (args:List (Int×Int)) (aC:bm.length<bC) (ai:∀ o∈bm,o.bp.length<bC) (a6:args.length<bC) (j:Nat) (aL:j<p.methods.length):eF d0 (.func 164 [] [.bw [.bw (mY p mb) 0] 0,.bw [hx bm] 0,.bw [lh args] 0]) [.int .i64 (j:Int)] (.bool (Cv p bm args j)):=by
 have an:=bD;refine eF.fx (first:=[]) (cap:=[.bw [.bw (mY p mb) 0] 0,.bw [hx bm] 0,.bw [lh args] 0]) ?_;refine aT.bh ah Tryz.func164 C C fun s I=>?_
 obtain ⟨m,ab,bL⟩:=b8 (f:=lM) aL;have fH:=d5 ab;have qX:=H6 (ca p) (x1 dk) m.fact (by have:=aF.facts m fH;omega) bm args aC ai a6;have iz:Cv p bm args j=((ob (ca p) m.fact bm args).1&&(ob (ca p) m.fact bm args).2==0):=by
  unfold Cv;rw [ae1,d7,ab];rfl
 rw [ak.b6] at qX;unfold ak.cells fz at qX;unfold lM n2 at bL;unfold mY cZ fE hx lh at *;rw [iz];generalize ob (ca p) m.fact bm args=r at *;obtain ⟨ho,b2⟩:=r;cases ho with
 | false=>
  refine b' ?_;exact bB I
 | true=>
  refine b' ?_;exact bB I
theorem aaW (f:FuncId) (cap:List ag) (xs:List Nat) (aC:xs.length<bC) (oI:yL d0 f [] cap [] r4 xs):aT d0 162 [.func f [] cap] (.aA 1 (xs.map r4) .bb):=by
 have aB:=bA.Hz (aaT f cap xs aC oI);refine aT.bh ah Tryz.func162 C C fun s I=>?_
 refine b' ?_;exact bB I
theorem aaX (p:bT) (aF:ga p) (dk:gA p=true) (mb:Nat) (n:Int) (bm:List eV) (args:List (Int×Int)) (aC:bm.length<bC) (ai:∀ o∈bm,o.bp.length<bC) (a6:args.length<bC) :
    aT d0 120 [.bw (mY p mb) 0,hx bm,.int .i64 n,lh args] (bd (JU p bm n args)):=by
  have an:=bD;have ht:=aF.Eg;have fZ:=Qi n p.methods 0;have adx:=aaS p mb n;have zE:=aaW 196 [.bw [.bw (mY p mb) 0] 0,.bw [.int .i64 n] 0] (nH n 0 p.methods) af (aaR p aF mb n)
  have p5:=aaF (.func 164 [] [.bw [.bw (mY p mb) 0] 0,.bw [hx bm] 0,.bw [lh args] 0]) (Cv p bm args) ((nH n 0 p.methods).map fun i:Nat=>(i:Int)) pV (fun x ab=>by
    obtain ⟨j,aL,rfl⟩:=af'.1 ab
    have:=(Qj n p.methods 0 j aL).2
    exact aaV p aF dk mb bm args aC ai a6 j af)
  have he:((nH n 0 p.methods).map fun i:Nat=>(i:Int)).map a8=(nH n 0 p.methods).map r4:=by rw [au1];rfl
  rw [he] at p5;refine aT.bh ah Tryz.func120 C C fun s I=>?_
  unfold JU bd;refine b' ?_;exact bB I
def x5 (p:bT) (bm:List eV) (n:Int) (args:List (Int×Int)):Bool:=gA p&&xM p bm n args
def Fm (p:bT) (bm:List eV) (n:Int) (args:List (Int×Int)):ag := .cw [if x5 p bm n args then bd (JU p bm n args) else .aA 0 [] .nil,.int .i64 (if x5 p bm n args then 0 else 2)]
theorem aaY (n:Int) (bm:List eV) (args:List (Int×Int)):aT d0 119 [.mu,hx bm,.int .i64 n,lh args] (.bool false):=by
 have av:=aaI n;refine aT.bh ah Tryz.func119 C C fun s I=>?_
 unfold hx lh;refine b' ?_;exact bB I
theorem aaZ (p:bT) (aF:ga p) (n:Int) (bm:List eV) (args:List (Int×Int)) (aC:bm.length<bC) (ai:∀ o∈bm,o.bp.length<bC) (a6:args.length<bC):aT d0 72 [cW p,hx bm,.int .i64 n,lh args] (Fm p bm n args):=by
 have an:=bD;refine aT.bh ah Tryz.func72 C C fun s I=>?_
 have iz:x5 p bm n args=(gA p&&xM p bm n args):=rfl;unfold Fm;cases dk:gA p with
 | false=>
  rw [dk,f9] at iz;rw [iz];have aD:=aaM p aF dk;have aB:=aaY n bm args;unfold cW cZ at *;refine b' ?_;exact bB I
 | true=>
  rw [dk,f5] at iz;have aD:=aaU p aF dk;unfold cW cZ at *;refine dt ?_;refine aa.bX rfl rfl rfl rfl rfl aD I .nil ?_ (fun _ _ h _=>by obtain ⟨_,h,_⟩:=h;cases h);rintro _ _ ⟨mb,⟨⟩,rfl⟩ I;have aB:=aaN p aF dk mb n bm args aC ai a6;have Cw:=aaX p aF dk mb n bm args aC ai a6;cases nG:xM p bm n args with
  | false=>
   rw [nG] at iz aB;rw [iz];refine b' ?_;exact bB I
  | true=>
   rw [nG] at iz aB;rw [iz];refine c2 ?_;exact bB I
def vK (w:bz) (bm:List eV) (args:List (Int×Int)) (f:ak):Bool:=(ob w f bm args).2==0&&(ob w f bm args).1
def vL (q:ak→Bool):Nat→List ak→Nat→Nat
 | _,[],v=>v
 | i,f::r,v=>vL q (i+1) r (if q f then v|||2^i else v)
theorem Qk (q:ak→Bool):∀ (l:List ak) (i v:Nat),v<2^i→vL q i l v<2^(i+l.length)
  | [],i,v,h=>h
  | f::r,i,v,h=>by
    have U:(if q f then v|||2^i else v)<2^(i+1):=by
      have ad:2^i<2^(i+1):=ai' af af;split
      · exact aj4 af ad
      · omega
    have:=Qk q r (i+1) _ U;rw [vL,g9,show i+(r.length+1)=i+1+r.length by omega];exact this
def Cx (p:bT) (bm:List eV) (n:Int) (args:List (Int×Int)):Nat:=vL (vK (ca p) bm args) 0 (ct p n) 0
def vM (p:bT) (bm:List eV) (n:Int) (args:List (Int×Int)) (g:List bP):Int:=
 if !(x5 p bm n args) || !jI g then 2 else if hy p n=0 then (if BT p n g then 0 else 7) else hy p n
def JV (p:bT) (bm:List eV) (n:Int) (args:List (Int×Int)) (g:List bP):ag:=
 .cw [if vM p bm n args g=0 then bd (g.getD (leads g (Cx p bm n args)).1.toNat default).ms else .aA 0 [] .nil,.int .i64 (if vM p bm n args g=0 then ((leads g (Cx p bm n args)).2:Int) else 0),.int .i64 (vM p bm n args g)]
theorem aa0 {g:List bP} (h:jI g=true):∀ x∈g,x.ms.length≤16:=fun x ab=>by
 obtain ⟨i,aR⟩:=ai0 ab;have az:=xe h aR;by_cases a6:x.atom = -1
 ·exact ((tS a6).1 az).2.2.1
 ·have:=((pR a6).1 az).2.2.2.2.2.2
  omega
theorem aa1 {i:Nat} (h:i≤7):t7 .i64 (1*2^(min (i:Int).toNat (IntKind.bits .i64)))=((2^i:Nat):Int):=Fh h
theorem aa2 (p:bT) (aF:ga p) (n:Int) (bm:List eV) (args:List (Int×Int)) (aC:bm.length<bC) (ai:∀ o∈bm,o.bp.length<bC) (kt:args.length<bC) (g:List bP) (av:g.length<bC):aT d0 22 [cW p,hx bm,.int .i64 n,lh args,hv g] (JV p bm n args g):=by
 have an:=bD;refine aT.bh ah Tryz.func22 C C fun s I=>?_
 have Cw:=aaZ p aF n bm args aC ai kt;have a7:=HK g av;have a6:=E8 p aF n;have eS:vM p bm n args g=if !(x5 p bm n args) || !jI g then 2 else if hy p n=0 then (if BT p n g then 0 else 7) else hy p n:=rfl
 unfold JV;cases iz:x5 p bm n args with
 | false=>
  rw [iz] at eS;have eS:vM p bm n args g=2:=eS;unfold Fm at Cw;rw [iz,f0 ba,f0 ba] at Cw;rw [eS,f0 ba,f0 ba];unfold cW cZ hx lh hv at *;refine b' ?_;exact bB I
 | true=>
 have dk:gA p=true:=by unfold x5 at iz;rw [f8] at iz;exact iz.1
 unfold Fm at Cw;rw [iz,g6 C,g6 C] at Cw;cases mR:jI g with
 | false=>
  rw [iz,mR] at eS;have eS:vM p bm n args g=2:=eS;rw [mR] at a7;rw [eS,f0 ba,f0 ba];unfold cW cZ hx lh hv at *;refine b' ?_;exact bB I
 | true=>
 rw [iz,mR] at eS;have eS:vM p bm n args g=if hy p n=0 then (if BT p n g then 0 else 7) else hy p n:=eS
 rw [mR] at a7;unfold cW cZ hx lh hv at *;refine b' ?_;refine aa.bX rfl rfl rfl rfl rfl a6 I .nil ?_ (fun _ _ h _=>by rcases h with ⟨_,_,_,_,h,_⟩|⟨_,⟨_,h⟩,_⟩<;>cases h);rintro _ _ (⟨he,cr,an,cb,⟨⟩,rfl⟩|⟨he,⟨v,⟨⟩⟩,rfl⟩) I;rotate_left
 ·rw [f0 he] at eS
  rw [eS,f0 he,f0 he];simp only [d8] at I ⊢;refine ed ?_;refine ae.cond C (fun _=>?_) (fun h=>absurd e2 he);refine gX ?_;exact bB I
 rw [g6 he] at eS;obtain ⟨dk,fq,cX,e7,gh⟩:=zO he;have aD:=aaC p aF dk n (ct p n) an cb cr fq cX e7 gh g mR;have Gg:(g.all (fun x=>decide (x.atom<((ct p n).length:Int)))&&(hF (ca p) (ct p n)).all (vJ p n (ct p n) g))=BT p n g:=rfl;rw [Gg] at aD;unfold eo hv at aD;simp only [aa',d8] at I ⊢;refine bl ?_;refine aa.bX rfl rfl rfl rfl rfl aD I aX ?_ (fun _ _ ⟨h,_⟩ _=>by cases h);rintro _ _ ⟨⟨⟩,EM,m,rfl⟩ I;simp only [aa',d8] at I ⊢;cases Dv:BT p n g with
 | false=>
  rw [Dv,f0 ba] at eS;rw [eS,f0 ba,f0 ba];refine ed ?_;exact bB I
 | true=>
 rw [Dv,g6 C] at eS;rw [eS,g6 C,g6 C];have Fl:Cx p bm n args=vL (vK (ca p) bm args) 0 (ct p n) 0:=rfl;have fC:=Qk (vK (ca p) bm args) (ct p n) 0 0 ba;rw [af5] at fC;have p4:2^(ct p n).length≤2^7:=ag2 af fq;rw [← Fl] at fC;generalize Cx p bm n args=view at *;have o8:=Ox g mR view af;obtain ⟨Ql,Cy,g1,g2,-⟩:=Oz mR view;have fm:Cy.ms.length≤16:=(aa0 mR) Cy (d5 g2);have cy:=Bk Cy.ms .bb af;have mD:(g.map eN)[Ql]? = some (eN Cy):=by rw [ae4,g2];rfl
 rw [g1] at o8 ⊢;rw [ae1,show g.getD Ql default=Cy by rw [d7,g2];rfl];unfold hv at o8;unfold eN ha at mD;unfold eh dd at I ⊢;generalize bM:ct p n=l at *;refine hD I ?_;intro I;refine ae.b5 [1,3,4,15,55,56] C I (σ:=Nat×Nat) (fun q=>[(57,.int .i64 (q.1:Int)),(17,.int .i64 (q.2:Int))]) (fun _=>[eo p n (dd l) EM an cb cr]) (fun q=>q.1≤l.length∧q.2<2^q.1∧view=vL (vK (ca p) bm args) q.1 (l.drop q.1) q.2) (fun q=>l.length-q.1) (0,0) ⟨g7 _,by simp,Fl⟩ (cl C) Qb ?_;rintro ⟨j,v⟩ ⟨aL,aw,aq⟩ I;simp only [eo,eh,dd] at aL aw aq I ⊢;have ady:2^j≤2^7:=ag2 af af;refine b7 ?_;refine ae.cond C (fun au=>?_) (fun aV=>?_);rotate_left
 ·have aV:j=l.length:=by simp at aV;omega
  rw [eD af,vL] at aq;subst aq;refine c2 ?_;exact bB I
 have au:j<l.length:=by simpa using au
 obtain ⟨f,ab,bL⟩:=b8 (f:=ak.bK) au;have r3:=cX f (d5 ab);have t':f.size<bC:=by
  have U:=f.size_eq;have ad:=s4 r3.1 r3.2;have al:=x4 r3.1 r3.2;rw [al,ak.hN] at U;omega
 have vf:=H6 (ca p) (x1 dk) f t' bm args aC ai kt;rw [drop_cons ab,vL] at aq;have jQ:vK (ca p) bm args f=((ob (ca p) f bm args).2==0&&(ob (ca p) f bm args).1):=rfl;generalize ob (ca p) f bm args=r at vf jQ;obtain ⟨ho,b2⟩:=r;rw [ak.b6] at bL vf;unfold ak.cells fz fE hx lh at *;simp only at jQ vf;by_cases bq:b2=0
 ·subst bq
  cases ho with
  | true=>
   have jQ:vK (ca p) bm args f=true:=jQ;rw [jQ,g6 C] at aq
   repeat (first|(refine Ug I ?_;clear I;intro I)|refine aa.eb ah I rfl rfl rfl rfl rfl rfl rfl (fun cH I=>?_)|(refine GV I ?_;clear I;intro I))
   refine aa.shl ((2^j:Nat):Int) C C C C C C af (aa1 af) ?_;refine aa.bits _ C C C C C C (UB af af) ?_;refine fj ?_;exact bn.mk (j+1,v|||2^j) I ⟨au,aj4 (by rw [ao2];omega) (ai' af af),aq⟩ cj aX n4
  | false=>
   have jQ:vK (ca p) bm args f=false:=jQ;rw [jQ,f0 ba] at aq
   repeat (first|(refine Uh I ?_;clear I;intro I)|refine aa.eb ah I rfl rfl rfl rfl rfl rfl rfl (fun cH I=>?_)|(refine GV I ?_;clear I;intro I))
   exact bn.mk (j+1,v) I ⟨au,by show v<2^(j+1);rw [ao2];omega,aq⟩ cj aX n4
 ·have jQ:vK (ca p) bm args f=false:=by rw [jQ,show (b2==0)=false from beq_eq_false_iff_ne.2 bq,f9]
  rw [jQ,f0 ba] at aq
  repeat (first|(refine Ui I ?_;clear I;intro I)|refine aa.eb ah I rfl rfl rfl rfl rfl rfl rfl (fun cH I=>?_)|(refine GV I ?_;clear I;intro I))
  refine aa.dh 75 C (beq_eq_false_iff_ne.2 bq) ?_;refine bl ?_;exact bn.mk (j+1,v) I ⟨au,by show v<2^(j+1);rw [ao2];omega,aq⟩ cj aX n4
def eZ (ws:List Nat) (u:Nat):Bool:=ws.contains u
theorem aa3 {vs:List Nat} {q:Nat→Bool} {v:Nat} (h:v∈vs):eZ (vs.filter q) v=q v:=by
 unfold eZ;rw [af7,ah8,ah6];exact ⟨fun h=>h.2,fun ad=>⟨h,ad⟩⟩
def jt (vs ws:List Nat):Prop:=∃ q,ws=vs.filter q
theorem jt.all (vs:List Nat):jt vs vs:=⟨fun _=>true,(av'.2 fun _ _=>rfl).symm⟩
theorem jt.filter {vs ws:List Nat} (h:jt vs ws) (q:Nat→Bool):jt vs (ws.filter q):=by
 obtain ⟨r,rfl⟩:=h;exact ⟨_,as3⟩
theorem jt.mem {vs ws:List Nat} (h:jt vs ws) {v:Nat} (aw:v∈ws):v∈vs:=by
 obtain ⟨r,rfl⟩:=h;exact (ah6.1 aw).1
theorem jt.len {vs ws:List Nat} (h:jt vs ws):ws.length≤vs.length:=by
 obtain ⟨r,rfl⟩:=h;exact aj2 _ _
theorem jt.self {vs ws:List Nat} (h:jt vs ws):vs.filter (eZ ws)=ws:=by
 obtain ⟨r,rfl⟩:=h;exact aB1 fun v aw=>aa3 aw
theorem jt.inj {vs ws Cz:List Nat} (eP:∀ v∈vs,v<128) (h:jt vs ws) (e3:jt vs Cz) (he:ke (eZ ws)=ke (eZ Cz)):ws=Cz:=by
 have:=aai he;rw [← h.self,← e3.self];exact aB1 fun v aw=>this v (eP v aw)
theorem Qm {vs ws:List Nat} (eP:∀ v∈vs,v<128) (h:jt vs ws):(ke (eZ ws)==[0,0])=ws.isEmpty:=by
 rw [af7,al6,ax6,← aaj];constructor
 ·intro he
  have bq:jt vs []:=⟨fun _=>false,by simp⟩;exact h.inj eP bq he
 ·rintro rfl
  rfl
def r5 (A:Nat) (h:Nat→List Int) (vs:List Nat) (M:List (List Int×ag)):Prop:=∀ e∈M,∃ ws,jt vs ws∧e=(ke (eZ ws),lr (eL A h ws))
theorem r5.len {A:Nat} {h:Nat→List Int} {vs:List Nat} {M:List (List Int×ag)} (eR:r5 A h vs M):∀ e∈M,e.1.length=2:=fun e he=>by
 obtain ⟨ws,_,rfl⟩:=eR e he;rfl
theorem r5.find {A:Nat} {h:Nat→List Int} {vs ws:List Nat} {M:List (List Int×ag)} {e:List Int×ag} (eP:∀ v∈vs,v<128) (eR:r5 A h vs M) (hw:jt vs ws) (a7:M.find? (fun e=>e.1==ke (eZ ws))=some e):e.2=lr (eL A h ws):=by
 obtain ⟨Cz,U,ad⟩:=eR e (List.mem_of_find?_eq_some a7);have al:=List.find?_some a7;rw [ad] at al ⊢;rw [U.inj eP hw (by simpa using al)]
theorem r5.add {A:Nat} {h:Nat→List Int} {vs ws:List Nat} {M:List (List Int×ag)} (eR:r5 A h vs M) (hw:jt vs ws):r5 A h vs (M++[(ke (eZ ws),lr (eL A h ws))]):=fun e he=>by
 rcases ae'.1 he with he|he
 ·exact eR e he
 ·rw [H1.1 he];exact ⟨ws,hw,rfl⟩
def kZ (vs:List Nat) (M mn:List (List Int×ag)) (k:Nat):Prop:=∀ e∈mn,e∈M∨∃ ws,jt vs ws∧ws.length<k∧e.1=ke (eZ ws)
theorem kZ.refl (vs:List Nat) (M:List (List Int×ag)) (k:Nat):kZ vs M M k:=fun _ h => .inl h
theorem kZ.trans {vs:List Nat} {M mn Qn:List (List Int×ag)} {k k':Nat} (h:kZ vs M mn k) (e3:kZ vs mn Qn k') (aE:k'≤k):kZ vs M Qn k:=fun e he=>by
 rcases e3 e he with U|⟨ws,U,ad,al⟩
 ·exact h e U
 ·exact .inr ⟨ws,U,by omega,al⟩
theorem kZ.add {vs ws:List Nat} {M mn:List (List Int×ag)} {k:Nat} {x:ag} (h:kZ vs M mn k) (hw:jt vs ws) (aE:ws.length<k):kZ vs M (mn++[(ke (eZ ws),x)]) k:=fun e he=>by
 rcases ae'.1 he with he|he
 ·exact h e he
 ·rw [H1.1 he];exact .inr ⟨ws,hw,aE,rfl⟩
theorem kZ.mono {vs:List Nat} {M mn:List (List Int×ag)} {k k':Nat} (h:kZ vs M mn k) (aE:k≤k'):kZ vs M mn k':=fun e he=>by
 rcases h e he with U|⟨ws,U,ad,al⟩
 ·exact .inl U
 ·exact .inr ⟨ws,U,by omega,al⟩
theorem kZ.none {vs ws:List Nat} {M mn:List (List Int×ag)} (eP:∀ v∈vs,v<128) (h:kZ vs M mn ws.length) (hw:jt vs ws) (a7:M.find? (fun e=>e.1==ke (eZ ws))=none):mn.find? (fun e=>e.1==ke (eZ ws))=none:=by
 rw [List.find?_eq_none] at a7 ⊢;intro e he;rcases h e he with U|⟨Cz,U,ad,al⟩
 ·exact a7 e U
 ·rw [al]
  intro az;have:=U.inj eP hw sF;rw [this] at ad;exact absurd ad (Nat.lt_irrefl _)
def zP:Option bW→ag
 | none => .ou
 | some t=>lr t
theorem zQ {ws:List Nat} {u:Nat}:eZ ws u=true↔u∈ws:=ah8
theorem aa4 {vs ws:List Nat} (hw:jt vs ws) (i u:Nat):(eZ ws u&&eZ (vs.filter fun v=>v.testBit i) u)=eZ (fu i ws) u:=by
 rw [af7,f8,zQ,zQ,zQ,fu,ah6,ah6];exact ⟨fun h=>⟨h.1,h.2.2⟩,fun h=>⟨h.1,hw.mem h.1,h.2⟩⟩
theorem aa5 {vs ws:List Nat} (hw:jt vs ws) (i u:Nat):(eZ ws u && !eZ (vs.filter fun v=>v.testBit i) u)=eZ (fw i ws) u:=by
 rw [af7,f8,ai5,ah4,zQ,ne_eq,zQ,zQ,fw,ah6,ah6];refine ⟨fun h=>⟨h.1,?_⟩,fun h=>⟨h.1,fun ad=>?_⟩⟩
 ·cases an:u.testBit i with
  | false=>rfl
  | true=>exact absurd ⟨hw.mem h.1,an⟩ h.2
 ·have:=h.2
  rw [ad.2] at this;cases this
theorem aa6 {vs:List Nat} {i j v:Nat} (aw:vs[j]? = some v):(fun u=>eZ ((vs.take (j+1)).filter fun v=>v.testBit i) u)=(fun u=>eZ ((vs.take j).filter fun v=>v.testBit i) u||(v.testBit i&&u==v)):=by
 funext u;rw [am2,aw,ao7];unfold eZ;rw [an9];congr 1;show List.contains (List.filter (fun v=>v.testBit i) [v]) u=_;rw [ah9,at4];cases v.testBit i with
 | true=>simp;rfl
 | false=>simp
section
variable {P:Program} {N:Nat} {env:Env} {s:ao} {o:Oper}
theorem aZ.Fo {t yt:TypeId} {x y:Operand} {k:IntKind} {n:Nat} {xs ys:List Int} (gO:sE P t k n) (br:P.eqGuardType P.depth t=false) (ai:o.op = .binOp .eql t x y yt) (ab:aM env x=some (kx k xs)) (ay:aM env y=some (kx k ys)) (U:xs.length=n) (ad:ys.length=n) :
  aZ P N o env s (fun v aj=>v = .bool (xs==ys)∧aj=s) (fun _ _=>False):=by
 refine aZ.m0 iW fun ro B c7 w p aI=>?_
 have b2:=Bz (aI.aM ab);have bU:=Bz (aI.aM ay);refine tt (v := .bool (xs==ys)) ai ?_ ?_ (.bool _)
 ·rw [b2,bU]
  unfold eqGuard pT;simp [ac',br]
 ·rw [b2,bU]
  have:=gO.eq xs ys U ad w;unfold pT at this ⊢;simp only [binOp,ac',this,Result.andThen_ok,Sem.run_pure]
end
section
variable {P:Program} {N:Nat} {ops:Array Oper} {Q:b9→Env→ao→Prop} {env:Env} {s:ao} {l:List Oper} {o:Oper} {d:Nat}
theorem aa.Fo {t yt:TypeId} {x y:Operand} {k:IntKind} {n:Nat} {xs ys:List Int} (gO:sE P t k n) (br:P.eqGuardType P.depth t=false) (av:guardOf ops env o=some true) (ax:o.dst=some d) (aU:t8 d N=true) (ai:o.op = .binOp .eql t x y yt) (ab:aM env x=some (kx k xs)) (ay:aM env y=some (kx k ys)) (U:xs.length=n) (ad:ys.length=n)
  (h:aa P N ops l Q ((d,.bool (xs==ys))::env) s):aa P N ops (o::l) Q env s:=
 aa.op av ax aU (aZ.Fo gO br ai ab ay U ad) (fun x aj ⟨U,ad⟩=>by subst U;subst ad;exact h) (fun _ _ h=>h.elim)
end
theorem CA:sE d0 106 .u64 2:=by
 refine ⟨by kernel_rfl,fun e xs ab w=>?_,fun xs ys ab ay w=>?_⟩
 ·obtain ⟨a,b,rfl⟩:=two ab
  kernel_rfl
 ·obtain ⟨a,b,rfl⟩:=two ab
  obtain ⟨c7,aY,rfl⟩:=two ay;have hint:(d0).underlying 104 = some (.int .u64):=by kernel_rfl
  obtain ⟨info,aR⟩:=info_of_underlying hint;have BC:=NJ (T := 106) (e := 104) (k := .u64) gj aR gj hint (fun a b w=>⟨by kernel_rfl,by kernel_rfl⟩) 9998 a b c7 aY w;have aw:∀ a b:Int,pT .u64 [a,b] = .agg #[.int .u64 a,.int .u64 b]:=fun _ _=>rfl
  rw [aw,aw];unfold Op.equal;exact BC
theorem Qo:(d0).eqGuardType (d0).depth 106 = false:=by kernel_rfl
def ju (p:bT) (n:Int) (l:List ak) (an cb cr:Nat) (vs:List Nat) (M:List (List Int×ag)):a':=[eo p n (dd l) (.aA 1 (ic vs) .bb) an cb cr,(.own an,.map (Cp p n l vs)),(.own cb,.map (mS .u64 M))]
theorem aa7 (p:bT) (n:Int) (l:List ak) (an cb cr:Nat) (vs:List Nat) (eP:∀ v∈vs,v<2^l.length) (fq:l.length≤7) (fC:vs.length≤128) (ht:p.methods.length≤16):∀ (k:Nat) (ws:List Nat),ws.length≤k→jt vs ws→∀ M,r5 l.length (dp p n l) vs M →
  bA d0 62 [.ptr cr 0,lx (eZ ws)] (ju p n l an cb cr vs M) (fun o K=>∃ mn,r5 l.length (dp p n l) vs mn∧kZ vs M mn (ws.length+1)∧o = .ret (lr (eL l.length (dp p n l) ws))∧K=ju p n l an cb cr vs mn):=by
 have lD:bC=1099511627776:=rfl;have p4:2^l.length≤2^7:=ag2 af fq;have zR:∀ v∈vs,v<128:=fun v h=>by have:=eP v h;omega
 intro k
 induction k using Nat.strongRecOn with
 | ind k a1=>
 intro ws aE hw M eR;have kA:=eR.len;have JW:=aax p n l an cb cr vs zR fC ht (eZ ws);rw [hw.self] at JW;have n8:=BW l.length (dp p n l) ws;have rG:=hw.len;refine bA.bh ah Tryz.func62 C C fun s I=>?_
 unfold ju eo eh dd lx at *;refine hD I ?_;intro I;refine aK.y9 ah I (xs:=ke (eZ ws)) (es:=M) CA C C C C C C C C C C kA aW C ?_;cases a7:M.find? (fun e=>e.1==ke (eZ ws)) with
 | some e=>
  rw [Option.map_some,eR.find zR hw a7];refine hi ?_;exact Fin.bs I C aJ (aG.all _) ⟨M,eR,kZ.refl _ _ _,rfl,rfl⟩
 | none=>
 rw [Option.map_none];refine b' ?_;unfold qW eo eh dd at JW;refine aa.bX rfl rfl rfl rfl rfl JW I aX ?_ (fun _ _ ⟨h,_⟩ _=>by cases h);rintro _ _ ⟨⟨⟩,rfl⟩ I;simp only [d8,aa'] at I ⊢;cases a6:lq (dp p n l) ws with
 | true=>
  rw [a6,g6 C] at n8;rw [g6 C];refine hD I ?_;intro I;refine aK.BA ah I (xs:=ke (eZ ws)) (es:=M) CA C C C (.inl C) C C C C C C kA aW a7 (fun I=>?_);refine gX ?_;exact Fin.bs (K:=ju p n l an cb cr vs (M++[(ke (eZ ws),lr (eL l.length (dp p n l) ws))])) I C aJ (by rw [n8];exact (by simp only [ju,eo,eh,dd];exact aX)) ⟨_,eR.add hw,(kZ.refl _ _ _).add hw (aj6 _),by rw [n8];rfl,rfl⟩
 | false=>
 rw [a6,f0 ba] at n8;rw [f0 ba];obtain ⟨adz,CB⟩:=OJ (A:=l.length) (h:=dp p n l) (vs:=ws) (fun v h=>eP v (hw.mem h)) a6 (eL l.length (dp p n l));rw [CB,af9] at n8;refine hD I ?_;intro I;refine ae.b5 [0,3,50] C I (σ:=Nat×Option bW×List (List Int×ag)) (fun q=>[(51,.int .i64 (q.1:Int)),(9,zP q.2.1)]) (fun q=>ju p n l an cb cr vs q.2.2)
  (fun q=>q.1≤l.length∧r5 l.length (dp p n l) vs q.2.2∧kZ vs M q.2.2 ws.length∧(∀ t,q.2.1=some t→t.leaves≤128)∧(ag3 l.length).foldl (jX (eL l.length (dp p n l)) ws) none=(List.range' q.1 (l.length-q.1)).foldl (jX (eL l.length (dp p n l)) ws) q.2.1) (fun q=>l.length-q.1) (0,none,M)
  ⟨g7 _,eR,kZ.refl _ _ _,(fun _ h=>by cases h),by rw [List.range_eq_range'];rfl⟩ (cl C) (by simp only [ju,eo,eh,dd];exact aX) ?_
 rintro ⟨i,out,uo⟩ ⟨aR,x6,vN,fZ,aq⟩ I;simp only [ju,eo,eh,dd] at aR x6 vN fZ aq I ⊢;have p5:=kZ.none zR vN hw a7;have aa8:=x6.len;refine b7 ?_;refine ae.cond C (fun au=>?_) (fun aV=>?_);rotate_left
 ·have aV:i=l.length:=by simp at aV;omega
  rw [aV,ap9,List.range'_zero,au4,CB] at aq;subst aq;unfold zP;refine tB I ?_;intro I;refine aK.BA ah I (xs:=ke (eZ ws)) (es:=uo) CA C C C (.inl C) C C C C C C aa8 aW p5 (fun I=>?_);refine gX ?_;exact Fin.bs (K:=ju p n l an cb cr vs (uo++[(ke (eZ ws),lr (eL l.length (dp p n l) ws))])) I C aJ (by rw [n8];exact (by simp only [ju,eo,eh,dd];exact aX)) ⟨_,x6.add hw,(vN.mono (Nat.le_succ _)).add hw (aj6 _),by rw [n8],rfl⟩
 have au:i<l.length:=by simpa using au
 rw [show l.length-i=(l.length-(i+1))+1 by omega,List.range'_succ,ah7] at aq;have dn:jX (eL l.length (dp p n l)) ws out i=if (fu i ws).isEmpty||(fw i ws).isEmpty then out else rU out (.test i (eL l.length (dp p n l) (fw i ws)) (eL l.length (dp p n l) (fu i ws))):=rfl
 repeat (first|(refine Uj I ?_;clear I;intro I)|refine aa.eb ah I rfl rfl rfl rfl rfl rfl rfl (fun cH I=>?_))
 obtain ⟨jM,rfl⟩:∃ x,x=cH:=⟨_,rfl⟩;have JX:(fun u=>eZ ((vs.take 0).filter fun v=>v.testBit i) u)=fun _=>false:=rfl
 refine ae.b5 [0,3,50,51,9,10,11,57,58] C I (σ:=Nat) (fun j=>[(59,.int .i64 (j:Int))]) (fun j=>(.own jM,.box 106 [.int .u64 (gf (fun u=>eZ ((vs.take j).filter fun v=>v.testBit i) u) 0 64:Nat),.int .u64 (gf (fun u=>eZ ((vs.take j).filter fun v=>v.testBit i) u) 64 64:Nat)])::ju p n l an cb cr vs uo) (fun j=>j≤vs.length) (fun j=>vs.length-j) 0 (g7 _) (cl C) (by
  simp only [JX,Co (fun _=>rfl),ju,eo,eh,dd]
  exact aX) ?_
 rintro j aL I;simp only [ju,eo,eh,dd] at aL I ⊢;refine b7 ?_;refine ae.cond C (fun cI=>?_) (fun aV=>?_)
 ·have cI:j<vs.length:=by simpa [ic] using cI
  obtain ⟨v,aw,m4⟩:=b8 (f:=fun v:Nat=>ag.int .i64 (v:Int)) cI;have JY:=zR v (d5 aw);have n9:=aa6 (i:=i) aw;have Fp:=P1 (fun u=>eZ ((vs.take j).filter fun v=>v.testBit i) u) v JY;unfold lx at Fp;unfold ic at I ⊢;refine dG ?_;refine aa.shr _ C C C C C C af (tJ af) ?_;refine aa.bits _ C C C C C C (AU (n:=1) (ak1 (ap3 v i) af) af) ?_;refine gr ?_;have mf:=JI v i;cases pB:v.testBit i with
  | true=>
   simp only [pB,f5] at n9;refine ae.cond C (fun _=>?_) (fun h=>by rw [mf,pB] at h;cases h);refine hD I ?_;intro I;exact bn.mk (j+1) I cI cj (by simp only [n9];exact aX) qU
  | false=>
   simp only [pB,f9,am3] at n9;refine ae.cond C (fun h=>by rw [mf,pB] at h;cases h) (fun _=>?_);refine gx ?_;exact bn.mk (j+1) I cI cj (by simp only [n9];exact aX) qU
 have aV:j=vs.length:=by simp [ic] at aV;omega
 subst aV;rw [ae5] at I ⊢;have hand:=aak (eZ ws) (fun u=>eZ (vs.filter fun v=>v.testBit i) u);have JZ:=aal (eZ ws) (fun u=>eZ (vs.filter fun v=>v.testBit i) u);simp only [aa4 hw i,aa5 hw i] at hand JZ;unfold lx at hand JZ;refine ae.l5 I 11 jM C .here (fun I=>?_);refine tC ?_;refine ae.wS (σ:=Nat×Nat) (fun z=>[(0,.ptr cr 0),(3,.bw [.int .u64 (gf (eZ ws) 0 64:Nat),.int .u64 (gf (eZ ws) 64 64:Nat)] 0),(50,.int .i64 ((l.map ak.bK).length:Int)),(51,.int .i64 (i:Int)),(9,zP out),(10,.int .i64 (i:Int)),(14,.ptr z.1 0),(15,.ptr z.2 0)]) (fun z=>(.own z.1,.box 106 [.int .u64 (gf (eZ (fu i ws)) 0 64:Nat),.int .u64 (gf (eZ (fu i ws)) 64 64:Nat)])::(.own z.2,.box 106 [.int .u64 (gf (eZ (fw i ws)) 0 64:Nat),.int .u64 (gf (eZ (fw i ws)) 64 64:Nat)])::ju p n l an cb cr vs uo) (fun _=>True) ?_ ?_
 ·refine ae.rk ah mixed C (bc.run C ?_)
  refine bc.AJ (i:=2) C C C C C C C hand ?_;refine bc.run C ?_;refine bc.AJ (i:=5) C C C C C C C JZ ?_;refine bc.run C ?_;refine bc.many C (hZ.c (ko.mk (i:=6) C C C C (aZ.eb ah I C C C C (X:=fun _ _=>False)) ?_ (fun _ _ h=>h.elim)) (hZ.c (ko.mk (i:=7) C C C C (aZ.eb ah I C C C C (X:=fun _ _=>False)) ?_ (fun _ _ h=>h.elim)) hZ.n))
  ·rintro _ _ ⟨CC,rfl,rfl,I⟩
   refine bc.eb 7 ah I C C C C C C C C C (fun r0 I=>?_);refine bc.run C ?_;refine bc.cK 8 ah I C C C C C C C C C C C aW b1 (fun I=>?_);refine bc.run C ?_;refine bc.cK 9 ah I C C C C C C C C C C C aW b1 (fun I=>?_);refine bc.run C ?_;refine bc.done C ?_;exact k8.mk (CC,r0) I trivial (cl C) (by simp only [ju,eo,eh,dd,ic];exact aX)
  ·rintro _ _ ⟨r0,rfl,rfl,I⟩
   refine bc.eb 6 ah I C C C C C C C C C (fun CC I=>?_);refine bc.run C ?_;refine bc.cK 8 ah I C C C C C C C C C C C aW b1 (fun I=>?_);refine bc.run C ?_;refine bc.cK 9 ah I C C C C C C C C C C C aW b1 (fun I=>?_);refine bc.run C ?_;refine bc.done C ?_;exact k8.mk (CC,r0) I trivial (cl C) (by simp only [ju,eo,eh,dd,ic];exact aX)
 rintro ⟨CC,r0⟩-I;unfold ju eo eh dd at I ⊢;refine ae.l5 I 14 CC C .here (fun I=>?_);refine ae.l5 I 15 r0 C .here (fun I=>?_);have de:=Qm zR (hw.filter fun v=>v.testBit i);have pC:=Qm zR (hw.filter fun v => !v.testBit i);rw [show ws.filter (fun v=>v.testBit i)=fu i ws from rfl] at de;rw [show ws.filter (fun v => !v.testBit i)=fw i ws from rfl] at pC;refine jE ?_;refine aa.Fo CA Qo (xs:=ke (eZ (fu i ws))) (ys:=[0,0]) C C C C C C C C ?_;rw [de];cases Fq:(fu i ws).isEmpty with
 | true=>
  rw [dn,Fq,ak3,g6 C] at aq;refine bl ?_;exact bn.mk (i+1,out,uo) I ⟨au,x6,vN,fZ,aq⟩ cj aX vI
 | false=>
 refine dU ?_;refine aa.Fo CA Qo (xs:=ke (eZ (fw i ws))) (ys:=[0,0]) C C C C C C C C ?_;rw [pC];cases cJ:(fw i ws).isEmpty with
 | true=>
  rw [dn,Fq,cJ,ap2,g6 C] at aq;refine bl ?_;exact bn.mk (i+1,out,uo) I ⟨au,x6,vN,fZ,aq⟩ cj aX vI
 | false=>
 rw [dn,Fq,cJ,f0 ba] at aq;have cR:=EI (i:=i) (vs:=ws) (by rw [Fq,cJ];rfl);have adA:=EH i ws;have Jl:=vw l.length (dp p n l) _ (fu i ws) (g8 _);have l1:=vw l.length (dp p n l) _ (fw i ws) (g8 _);have kg:=fun M h=>a1 (fw i ws).length af (fw i ws) (g8 _) (hw.filter fun v => !v.testBit i) M h
 have zx:=fun M h=>a1 (fu i ws).length af (fu i ws) (g8 _) (hw.filter fun v=>v.testBit i) M h
 obtain ⟨aeo,aev,fn,DL,-,-⟩:=ue (eL l.length (dp p n l) (fw i ws));obtain ⟨ty,fW,aek,JM,-,-⟩:=ue (eL l.length (dp p n l) (fu i ws));simp only [DL] at kg;simp only [JM] at zx;have Qp:(bW.test i (eL l.length (dp p n l) (fw i ws)) (eL l.length (dp p n l) (fu i ws))).leaves≤128:=by rw [bW.leaves];omega
 refine c2 ?_;refine ae.wS (σ:=List (List Int×ag)×Nat) (fun z=>[(0,.ptr cr 0),(3,.bw [.int .u64 (gf (eZ ws) 0 64:Nat),.int .u64 (gf (eZ ws) 64 64:Nat)] 0),(50,.int .i64 ((l.map ak.bK).length:Int)),(51,.int .i64 (i:Int)),(9,zP out),(10,.int .i64 (i:Int)),(16,.ptr z.2 0)]) (fun z=>(.own z.2,.box 156 [.int .i64 (i:Int),.iface aeo aev,.iface ty fW])::ju p n l an cb cr vs z.1) (fun z=>r5 l.length (dp p n l) vs z.1∧kZ vs uo z.1 ws.length) ?_ ?_
 ·refine ae.rk ah mixed C (bc.run C ?_)
  refine bc.many rfl (hZ.c (ko.mk (i:=3) rfl rfl rfl rfl (aZ.bX rfl rfl (kg uo x6) I aX) ?_ (fun x aj h=>by obtain ⟨_,_,_,_,_,_,h,_⟩:=h;cases h)) (hZ.c (ko.mk (i:=8) rfl rfl rfl rfl (aZ.eb ah I rfl rfl rfl rfl (X:=fun _ _=>False)) ?_ (fun _ _ h=>h.elim)) hZ.n))
  ·rintro _ _ ⟨aO,rfl,I,Fs,x7,Ft,⟨⟩,rfl⟩
   simp only [d8,aa'] at I ⊢;refine bc.run C ?_;refine bc.many rfl (hZ.c (ko.mk (i:=6) rfl rfl rfl rfl (aZ.bX rfl rfl (zx Fs x7) I aX) ?_ (fun x aj h=>by obtain ⟨_,_,_,_,_,_,h,_⟩:=h;cases h)) (hZ.c (ko.mk (i:=8) rfl rfl rfl rfl (aZ.eb ah I rfl rfl rfl rfl (X:=fun _ _=>False)) ?_ (fun _ _ h=>h.elim)) hZ.n))
   ·rintro _ _ ⟨aO,rfl,I,M2,rY,uq,⟨⟩,rfl⟩
    simp only [d8,aa'] at I ⊢;refine bc.run C ?_;refine bc.eb 8 ah I C C C C C C C C C (fun x8 I=>?_);refine bc.run C ?_;refine bc.cK 9 ah I C C C C C C C C C C C aW b1 (fun I=>?_);refine bc.run C ?_;refine bc.done C ?_;exact k8.mk (M2,x8) I ⟨rY,(Ft.mono af).trans uq af⟩ (cl C) (by simp only [ju,eo,eh,dd,ic];exact aX)
   ·rintro _ _ ⟨x8,rfl,rfl,I⟩
    refine bc.bX 6 rfl rfl rfl rfl rfl rfl rfl (zx Fs x7) I aX ?_ (fun _ _ al _=>by obtain ⟨_,_,_,h,_⟩:=al;cases h);rintro _ _ ⟨M2,rY,uq,⟨⟩,rfl⟩ I;simp only [d8,aa'] at I ⊢;refine bc.run C ?_;refine bc.cK 9 ah I C C C C C C C C C C C aW b1 (fun I=>?_);refine bc.run C ?_;refine bc.done C ?_;exact k8.mk (M2,x8) I ⟨rY,(Ft.mono af).trans uq af⟩ (cl C) (by simp only [ju,eo,eh,dd,ic];exact aX)
  ·rintro _ _ ⟨x8,rfl,rfl,I⟩
   refine bc.bX 3 rfl rfl rfl rfl rfl rfl rfl (kg uo x6) I aX ?_ (fun _ _ al _=>by obtain ⟨_,_,_,h,_⟩:=al;cases h);rintro _ _ ⟨Fs,x7,Ft,⟨⟩,rfl⟩ I;simp only [d8,aa'] at I ⊢;refine bc.run C ?_;refine bc.bX 6 rfl rfl rfl rfl rfl rfl rfl (zx Fs x7) I aX ?_ (fun _ _ al _=>by obtain ⟨_,_,_,h,_⟩:=al;cases h);rintro _ _ ⟨M2,rY,uq,⟨⟩,rfl⟩ I;simp only [d8,aa'] at I ⊢;refine bc.run C ?_;refine bc.cK 9 ah I C C C C C C C C C C C aW b1 (fun I=>?_);refine bc.run C ?_;refine bc.done C ?_;exact k8.mk (M2,x8) I ⟨rY,(Ft.mono af).trans uq af⟩ (cl C) (by simp only [ju,eo,eh,dd,ic];exact aX)
 rintro ⟨M2,x8⟩ ⟨rY,uq⟩ I;unfold ju eo eh dd at I ⊢;refine ae.l5 I 16 x8 C .here (fun I=>?_);cases out with
 | none=>
  unfold zP;refine bl ?_;exact bn.mk (i+1,some (.test i (eL l.length (dp p n l) (fw i ws)) (eL l.length (dp p n l) (fu i ws))),M2) I ⟨au,rY,vN.trans uq (g8 _),(fun t h=>by cases h;exact Qp),aq⟩ P8 aX vI
 | some o=>
  obtain ⟨to,ad8,Fu,x9,-,-⟩:=ue o;have j7:=YD (.test i (eL l.length (dp p n l) (fw i ws)) (eL l.length (dp p n l) (fu i ws))) o af (by have:=fZ o C;omega);rw [lr,DL,JM,x9] at j7;have w7:rU (some o) (.test i (eL l.length (dp p n l) (fw i ws)) (eL l.length (dp p n l) (fu i ws)))=if (bW.test i (eL l.length (dp p n l) (fw i ws)) (eL l.length (dp p n l) (fu i ws))).before o then some (.test i (eL l.length (dp p n l) (fw i ws)) (eL l.length (dp p n l) (fu i ws))) else some o:=rfl
  rw [w7] at aq;have pd:zP (some o) = .iface to ad8:=x9;rw [pd];cases jQ:(bW.test i (eL l.length (dp p n l) (fw i ws)) (eL l.length (dp p n l) (fu i ws))).before o with
  | true=>
   rw [jQ] at j7;rw [jQ,g6 C] at aq;refine b' ?_;exact bn.mk (i+1,some (.test i (eL l.length (dp p n l) (fw i ws)) (eL l.length (dp p n l) (fu i ws))),M2) I ⟨au,rY,vN.trans uq (g8 _),(fun t h=>by cases h;exact Qp),aq⟩ P8 aX vI
  | false=>
   rw [jQ] at j7;rw [jQ,f0 ba] at aq;refine b' ?_;exact bn.mk (i+1,some o,M2) I ⟨au,rY,vN.trans uq (g8 _),fZ,aq⟩ (by repeat (first|exact trivial|refine ⟨⟨_,rfl,aJ⟩,?_⟩|refine ⟨⟨_,rfl,aQ.of_eq (by (first|rw [h7 af]|exact x9.symm))⟩,?_⟩)) aX vI
def bW.all (P:List Int→Prop):bW→Prop
 | .leaf ms=>P ms
 | .test _ a b=>a.all P∧b.all P
theorem CD {P:List Int→Prop} (A:Nat) (h:Nat→List Int) (bq:P []) (gR:∀ v,P (h v)):∀ (n:Nat) (vs:List Nat),vs.length≤n→(eL A h vs).all P
  | n,vs,az=>by
    rw [BW];split
    · rw [bW.all]
      cases vs with
      | nil=>exact bq
      | cons v r=>exact gR v
    · refine OH (Pr:=fun t=>t.all P) (by rw [bW.all];exact bq) (fun _ h=>by cases h) (fun i _ he=>?_)
      have aC:=EI he;cases n with
      | zero=>omega
      | succ n=>
        rw [bW.all];exact ⟨CD A h bq gR n _ af,CD A h bq gR n _ af⟩
theorem J0:∀ (t:bW) (L:List bP) (j:Nat) (x:bP),L.length≤j→(bW.laid L t)[j]? = some x→x.atom≥0→(j:Int)<x.no∧x.no<(bW.laid L t).length∧(j:Int)<x.yes∧x.yes<(bW.laid L t).length
  | .leaf ms,L,j,x,aL,ab,a6=>by
    rw [bW.laid,af4 aL] at ab;cases h:j-L.length with
    | zero=>rw [h] at ab;cases ab;simp at a6
    | succ n=>rw [h] at ab;cases ab
  | .test i a b,L,j,x,aL,ab,a6=>by
    have U:=rW a (L++[⟨i,0,0,[]⟩]);have ad:=rW b (bW.laid (L++[⟨i,0,0,[]⟩]) a);have lb:=a.p1;have Ej:=b.p1;have bM:(L++[(⟨i,0,0,[]⟩:bP)]).length=L.length+1:=by simp
    rw [bM] at U;have aea:=J0 a (L++[⟨i,0,0,[]⟩]);have ael:=J0 b (bW.laid (L++[⟨i,0,0,[]⟩]) a);have o8:bW.laid L (.test i a b)=(bW.laid (bW.laid (L++[⟨i,0,0,[]⟩]) a) b).set L.length ⟨i,(L.length:Int)+1,((bW.laid (L++[⟨i,0,0,[]⟩]) a).length:Int),[]⟩:=rfl;rw [o8] at ab ⊢;rw [af1];by_cases zd:j=L.length
    · subst zd
      rw [aj9 af] at ab;cases ab;simp only;omega
    · rw [an8 af] at ab
      by_cases Ix:j<(bW.laid (L++[⟨i,0,0,[]⟩]) a).length
      · rw [xO b _ j Ix] at ab
        have:=aea j x af ab a6;omega
      · have:=ael j x af ab a6
        omega
theorem J1 {P:List Int→Prop} (bq:P []):∀ (t:bW) (L:List bP),t.all P→(∀ x∈L,P x.ms)→∀ x∈bW.laid L t,P x.ms
  | .leaf ms,L,aN,bM,x,ab=>by
    rw [bW.laid] at ab;rcases ae'.1 ab with ab|ab
    · exact bM x ab
    · rw [H1.1 ab];exact aN
  | .test i a b,L,aN,bM,x,ab=>by
    have o8:bW.laid L (.test i a b)=(bW.laid (bW.laid (L++[⟨i,0,0,[]⟩]) a) b).set L.length ⟨i,(L.length:Int)+1,((bW.laid (L++[⟨i,0,0,[]⟩]) a).length:Int),[]⟩:=rfl;rw [o8] at ab;rcases aj7 ab with ab|rfl
    · refine J1 bq b _ aN.2 (J1 bq a _ aN.1 (fun y ay=>?_)) x ab
      rcases ae'.1 ay with ay|ay
      · exact bM y ay
      · rw [H1.1 ay];exact bq
    · exact bq
theorem Qq {t:bW} (aN:t.all (fun ms=>ms.length≤16)) (aC:t.leaves≤500):qQ (bW.laid [] t):=by
 have U:=rW t [];have ad:=t.p1;rw [af6] at U;exact ⟨by omega,by omega,J1 (P:=fun ms=>ms.length≤16) ba t [] aN (fun _ h=>by cases h),fun i x ab a6=>J0 t [] i x (g7 _) ab a6⟩
theorem aa9 {g:List bP} (h:jI g=true):qQ g:=by
 obtain ⟨U,ad⟩:=Bh h;refine ⟨U,by omega,fun x ab=>?_,fun i x ab a6=>?_⟩
 ·obtain ⟨i,aR⟩:=ai0 ab
  have az:=xe h aR;by_cases a6:x.atom = -1
  ·exact ((tS a6).1 az).2.2.1
  ·have:=((pR a6).1 az).2.2.2.2.2.2
   omega
 ·have:=(pR af).1 (xe h ab)
  omega
theorem aba (g:List bP) (av:g.length<bC):aT d0 20 [hv g] (.cw [if jI g then .aA 4 ((small g).map eN) .bb else .aA 0 [] .nil,.int .i64 (if jI g then 0 else 2)]):=by
 have an:=bD;refine aT.bh ah Tryz.func20 C C fun s I=>?_
 have a7:=HK g av;unfold hv at *;cases mR:jI g with
 | false=>
  rw [mR] at a7;rw [f0 ba,f0 ba];refine b' ?_;exact bB I
 | true=>
  rw [mR] at a7;rw [g6 C,g6 C];have ar:=O2 g (aa9 mR);refine b' ?_;refine aa.bX rfl rfl rfl rfl rfl ar I .nil ?_ (fun _ _ ⟨h,_⟩ _=>by cases h);rintro _ _ ⟨⟨⟩,rfl⟩ I;simp only [d8] at I ⊢;refine er ?_;exact bB I
def zS (p:bT) (n:Int):ag := .cw [if hy p n=0 then .aA 4 ((small (bW.laid [] (xL p n))).map eN) .bb else .aA 0 [] .nil,.int .i64 (hy p n)]
theorem Qr (p:bT) (aF:ga p) (n:Int):aT d0 13 [cW p,.int .i64 n] (zS p n):=by
 have an:=bD;refine aT.bh ah Tryz.func13 C C fun s I=>?_
 have a6:=E8 p aF n;unfold zS;unfold cW cZ at *;refine dt ?_;refine aa.bX rfl rfl rfl rfl rfl a6 I .nil ?_ (fun _ _ h _=>by rcases h with ⟨_,_,_,_,h,_⟩|⟨_,⟨_,h⟩,_⟩<;>cases h);rintro _ _ (⟨he,cr,an,cb,⟨⟩,rfl⟩|⟨he,⟨v,⟨⟩⟩,rfl⟩) I
 ·rw [he,g6 C,EJ]
  obtain ⟨dk,fq,cX,e7,gh⟩:=zO he;have p4:2^(ct p n).length≤2^7:=ag2 af fq;have ll:=JJ p aF dk n (ct p n) an cb cr fq cX e7 gh;have fC:=Cq (ca p) (ct p n);have eP:∀ v∈hF (ca p) (ct p n),v<2^(ct p n).length:=fun v h=>Fi h
  have vG:=(uk dk).1;generalize bM:ct p n=l at *;generalize J2:hF (ca p) l=vs at *;have CB:=aa7 p n l an cb cr vs eP fq af vG vs.length vs (g8 _) (jt.all vs) [] (fun _ h=>by cases h);have q':=vw l.length (dp p n l) _ vs (g8 _);have om:=CD (P:=fun ms=>ms.length≤16) l.length (dp p n l) ba (fun v=>by have:=zJ n l v p.methods 0;unfold dp;omega) _ vs (g8 _);generalize eL l.length (dp p n l) vs=t at *;have Qs:=YE t [] none C cV;have qi:=Qq om af;have abb:=O2 _ qi;simp only [aa',d8] at I ⊢;unfold eo eh dd at *;refine bl ?_;refine aa.bX rfl rfl rfl rfl rfl ll I aX ?_ (fun _ _ ⟨h,_⟩ _=>by cases h);rintro _ _ ⟨⟨⟩,rfl⟩ I;simp only [aa',d8] at I ⊢
  repeat (first|(refine Uk I ?_;clear I;intro I)|refine aa.eb ah I rfl rfl rfl rfl rfl rfl rfl (fun cH I=>?_))
  obtain ⟨ad4,rfl⟩:∃ x,x=cH:=⟨_,rfl⟩;have JX:eZ (vs.take 0)=fun _=>false:=rfl
  refine ae.b5 [6,8,27,28] C I (σ:=Nat) (fun j=>[(29,.int .i64 (j:Int))]) (fun j=>(.own ad4,.box 106 [.int .u64 (gf (eZ (vs.take j)) 0 64:Nat),.int .u64 (gf (eZ (vs.take j)) 64 64:Nat)])::ju p n l an cb cr vs []) (fun j=>j≤vs.length) (fun j=>vs.length-j) 0 (g7 _) (cl C) (by
   simp only [JX,Co (fun _=>rfl),ju,eo,eh,dd]
   exact aX) ?_
  rintro j aL I;simp only [ju,eo,eh,dd,ic] at aL I ⊢;refine b7 ?_;refine ae.cond C (fun au=>?_) (fun aV=>?_)
  ·have au:j<vs.length:=by simpa using au
   obtain ⟨v,aw,m4⟩:=b8 (f:=fun v:Nat=>ag.int .i64 (v:Int)) au;have JY:v<128:=by have:=eP v (d5 aw);omega
   have Fp:=P1 (eZ (vs.take j)) v JY;have gB:(fun u=>eZ (vs.take j) u||u==v)=eZ (vs.take (j+1)):=by
    funext u;rw [am2,aw];unfold eZ;rw [an9];congr 1;simp;rfl
   rw [gB] at Fp;unfold lx at Fp;refine hD I ?_;intro I;exact bn.mk (j+1) I au cj aX qU
  have aV:j=vs.length:=by simp at aV;omega
  subst aV;rw [ae5] at I ⊢;unfold ju eo eh dd lx ic at CB;unfold gm fU at Qs;refine cC I ?_;intro I;refine aa.bX rfl rfl rfl rfl rfl CB I aX ?_ (fun _ _ h _=>by obtain ⟨_,_,_,h,_⟩:=h;cases h);rintro _ _ ⟨mn,-,-,⟨⟩,rfl⟩ I;simp only [aa',d8] at I ⊢;skip;refine aa.bX rfl rfl rfl rfl rfl Qs I .nil ?_ (fun _ _ h _=>by obtain ⟨_,_,h,_⟩:=h;cases h);rintro _ _ ⟨bu,cR,⟨⟩,rfl⟩ I;have mO:=rW t [];have lL:=t.p1;rcases bu with _|⟨g2,eA,ew⟩
  ·have bq:bW.laid [] t=[]:=cR
   rw [bq] at mO;simp at mO;omega
  obtain ⟨e8,fB,gq⟩:=cR;simp only [aa',d8] at I ⊢;refine aa.run ah C ?_;refine aa.nil ?_;refine tC ?_;refine ae.B7 I 11 g2 C aW gq B2 (jY _) fB (by have:=qi.len;omega) (fun I=>?_);rw [← xQ];refine jE ?_;refine aa.bX rfl rfl rfl rfl rfl abb I .nil ?_ (fun _ _ ⟨h,_⟩ _=>by cases h);rintro _ _ ⟨⟨⟩,rfl⟩ I;simp only [aa',d8] at I ⊢;refine er ?_;exact bB I
 ·rw [f0 he]
  simp only [d8] at I ⊢;refine ed ?_;refine ae.cond C (fun _=>?_) (fun h=>absurd e2 he);refine gX ?_;exact bB I
def zT (c:Int):ak := .mk 2 0 [] c 0 []
def mo:bT:=⟨[⟨[],[],[]⟩,⟨[3],[],[]⟩,⟨[],[],[]⟩],0,[1],[⟨1,0,zT 3,0⟩,⟨1,0,zT 4,1⟩,⟨1,0,.mk 6 0 [] 0 0 [zT 1,.mk 3 0 [] 0 5 []],2⟩],[⟨2,0,[]⟩,⟨2,0,[]⟩,⟨2,0,[]⟩,⟨2,0,[]⟩],3⟩
def p6:List bP:=[⟨0,1,4,[]⟩,⟨3,2,3,[]⟩,⟨-1,0,0,[]⟩,⟨-1,0,0,[2]⟩,⟨1,5,6,[]⟩,⟨-1,0,0,[0]⟩,⟨-1,0,0,[0,1]⟩]
theorem Qt:hy mo 0=0:=by kernel_rfl
theorem abc:hF (ca mo) (ct mo 0)=[0,1,3,4,12]:=by kernel_rfl
theorem abd:Cu mo 0 3=0:=by kernel_rfl
theorem abe:dp mo 0 (ct mo 0) 3=[0,1]:=by kernel_rfl
theorem abf:Cu mo 0 2=5:=by kernel_rfl
theorem abg:small (bW.laid [] (xL mo 0))=p6:=by kernel_rfl
theorem abh:vM mo [] 0 [(1,4)] p6=0:=by kernel_rfl
theorem abi:leads p6 (Cx mo [] 0 [(1,4)])=(3,2):=by kernel_rfl
theorem abj:gZ p6=2:=by kernel_rfl
theorem abk:jI p6=true:=by kernel_rfl
theorem abl:small [⟨0,1,2,[]⟩,⟨-1,0,0,[]⟩,⟨-1,0,0,[]⟩]=[⟨0,1,1,[]⟩,⟨-1,0,0,[]⟩]:=by kernel_rfl
theorem abm:jI [⟨0,1,2,[]⟩,⟨-1,0,0,[]⟩,⟨-1,0,0,[]⟩]=true:=by kernel_rfl
theorem J3 (c:Int):aT d0 50 [.int .i64 c] ((zT c).bK):=by
 have an:=bD;refine aT.bh ah Tryz.func50 C C fun s I=>?_
 rw [ak.b6];unfold zT ak.cells
 repeat (first|(refine LG I ?_;clear I;intro I)|refine aa.eb ah I rfl rfl rfl rfl rfl rfl rfl (fun cH I=>?_))
 refine Fin.cB I (oH C C (bo.get aW I) C) ?_
 repeat (first|exact aJ|exact aQ.empty|exact aQ.bb|refine aQ.agg ?_|refine aQ.aA ?_|exact cU.nil|refine cU.cons ?_ ?_)
theorem abn (u:Unit):aT d0 67 [] (hv p6):=by
 have an:=bD;refine aT.bh ah Tryz.func67 C C fun s I=>?_
 unfold hv;refine gX ?_;refine Fin.cB I C ?_;unfold p6;simp only [ae3,ah1,eN,ha,bd,a8]
 repeat (first|exact aJ|exact aQ.empty|exact aQ.bb|refine aQ.agg ?_|refine aQ.aA ?_|exact cU.nil|refine cU.cons ?_ ?_)
theorem abo (u:Unit):aT d0 51 [] (cW mo):=by
 have an:=bD;refine aT.bh ah Tryz.func51 C C fun s I=>?_
 have U:=J3 1;have al:=J3 3;have bf:=J3 4;rw [ak.b6] at U al bf;unfold ak.cells at U al bf
 repeat (first|(refine Ul I ?_;clear I;intro I)|refine aa.eb ah I rfl rfl rfl rfl rfl rfl rfl (fun cH I=>?_)|(refine Um I ?_;clear I;intro I))
 refine Fin.cB I (oH C C (bo.get aW I) C) ?_;unfold mo cW cZ;simp only [ae3,ah1,lM,n2,jo,nt,jq,la,bd,a8,ak.path,ak.op,ak.arg,ak.cls,ak.n,ak.kids,ak.b6,ak.cells,zT]
 repeat (first|exact aJ|exact aQ.empty|exact aQ.bb|refine aQ.agg ?_|refine aQ.aA ?_|exact cU.nil|refine cU.cons ?_ ?_)
theorem CE:ga mo:=⟨by decide,by decide,by decide,by decide,by decide,by decide,by decide⟩
theorem abp (u:Unit):aT d0 16 [] (.bool true):=by
 have an:=bD;have U:=abo ();have ad:=aau mo CE 0;have al:=Qe mo CE 0 3;have bf:=Qe mo CE 0 2;have bE:=Qr mo CE 0;have hf:=aa2 mo CE 0 [] [(1,4)] du (fun _ h=>by cases h) du p6 du;have ig:=Vq p6 du;have qC:=aba [⟨0,1,2,[]⟩,⟨-1,0,0,[]⟩,⟨-1,0,0,[]⟩] du;have en:=abn ();have s1:=u4 [0,1,3,4,12] [0,1,3,4,12] du du;have s2:=u4 [0,1] [0,1] du du;have aet:=u4 [2] [2] du du;have g1:=Ec p6 p6 du du du du;have g2:=Ec [⟨0,1,1,[]⟩,⟨-1,0,0,[]⟩] [⟨0,1,1,[]⟩,⟨-1,0,0,[]⟩] du du du du;unfold JR at ad;rw [Qt,g6 C,abc] at ad;unfold JT at al bf;rw [abd,g6 C,show ((3:Int).toNat)=3 from rfl,abe] at al;rw [abf,f0 du] at bf;unfold zS at bE;rw [Qt,g6 C,abg] at bE;unfold JV at hf;rw [abh,g6 C,g6 C,abi] at hf;rw [abk,g6 C,g6 C,abj] at ig;rw [abm,g6 C,g6 C,abl] at qC;rw [show (([0,1,3,4,12]:List Int)==[0,1,3,4,12])=true from rfl] at s1;rw [show (([0,1]:List Int)==[0,1])=true from rfl] at s2;rw [show (([2]:List Int)==[2])=true from rfl] at aet;rw [show (p6==p6)=true from rfl] at g1;rw [show (([⟨0,1,1,[]⟩,⟨-1,0,0,[]⟩]:List bP)==[⟨0,1,1,[]⟩,⟨-1,0,0,[]⟩])=true from rfl] at g2;refine aT.bh ah Tryz.func16 C C fun s I=>?_
 unfold cW cZ at *;refine et ?_;refine aa.l7 C C C C C s1 (.cons (aQ.of_eq C) (.one aQ.bb)) ?_;refine dU ?_;refine aa.l7 C C C C C s2 (.cons (aQ.of_eq C) (.one aQ.bb)) ?_;refine pD ?_;refine aK.l7 C C C C C hf (.cons aJ (.cons aQ.empty (.cons aJ (.cons aQ.bb (.one aJ))))) ?_;refine c2 ?_
 refine aa.l7 C C C C C qC (.one (by
  unfold hv
  simp only [ae3,ah1,eN,ha,bd,a8]
  repeat (first|exact aJ|exact aQ.empty|exact aQ.bb|refine aQ.agg ?_|refine aQ.aA ?_|exact cU.nil|refine cU.cons ?_ ?_))) ?_
 refine c2 ?_
 refine aa.l7 C C C C C g2 (.cons (aQ.of_eq C) (.one (by
  unfold hv
  simp only [ae3,ah1,eN,ha,bd,a8]
  repeat (first|exact aJ|exact aQ.empty|exact aQ.bb|refine aQ.agg ?_|refine aQ.aA ?_|exact cU.nil|refine cU.cons ?_ ?_)))) ?_
 refine er ?_;exact bB I
theorem abq {g:List bP} (av:qQ g):(small g).length≤1000∧∀ x∈small g,x.ms.length≤16:=by
 have n6:=av.pos;have kU:=av.len;have sX:=Jr av;obtain ⟨zu,kR⟩:=oh g 0;obtain ⟨a0,E1,-,Js⟩:=xV av (b:=0) af;have h3:small g=(meet (cd 0 g).2 (g.length+1) [] a0).reverse.map (jg (cd 0 g).2 (meet (cd 0 g).2 (g.length+1) [] a0)):=by
  unfold small;simp only [d7,E1,af9];rfl
 have xT:nD g.length []:=⟨List.nodup_nil,fun _ h=>by cases h⟩;have qS:=(sV sX (g.length+1) a0 af af [] (by rw [kR];exact xT)).1;have aC:=qS.len;rw [h3];refine ⟨by rw [d9,List.length_reverse];omega,fun x ab=>?_⟩;obtain ⟨z,-,rfl⟩:=af'.1 ab;have key:((cd 0 g).2.getD z.toNat default).ms.length≤16:=by
  rw [d7];cases h:(cd 0 g).2[z.toNat]? with
  | none=>exact g7 _
  | some y=>
   obtain ⟨w,lN,xS⟩:=B1 g 0 _ y h;rw [af9,xS];exact av.ms w lN
 unfold jg;simp only;split
 ·exact key
 ·exact key
theorem Qu (a b:ak) (a6:a.kids=[]) (dO:b.kids=[]) (I0:a.path.length<bC) (dk:b.path.length<bC):aT d0 84 [a.bK,b.bK] (.bool (fT a b)):=by
 have an:=bD;refine aT.bh ah Tryz.func84 C C fun s I=>?_
 obtain ⟨o,x,p,c,n,ks⟩:=a;obtain ⟨o',nI,bj,pH,n',DR⟩:=b;simp only [ak.kids] at a6 dO;subst a6;subst dO;have U:=u4 p bj I0 dk;have he:fT (.mk o x p c n []) (.mk o' nI bj pH n' [])=(decide (o=o')&&(decide (x=nI)&&(decide (c=pH)&&(decide (n=n')&&p==bj)))):=rfl;simp only [ak.b6,ak.cells,ak.op,ak.arg,ak.path,ak.cls,ak.n,ak.kids,ah1];unfold bd a8 at U;cases ar:decide (o=o')&&(decide (x=nI)&&(decide (c=pH)&&(decide (n=n')&&p==bj))) with
 | false=>
  rw [he,ar];clear he
  repeat' (first|(with_reducible first|apply ae.seq|apply b0|apply fY|apply ae.ret|apply ae.skip|apply ae.block)|refine c4 C ?_|refine ae.cF ?_|refine aa.nil ?_|refine ae.fM C ?_|refine ae.gT C ?_|refine cv C ?_|refine aa.skip C C C ?_|refine aa.ec C C C C C cx ?_|(fail_if_success refine aa.same true C ?_);(fail_if_success refine aa.same false C ?_);refine aa.hh C C (fun h=>?_) (fun h=>?_))
  all_goals (try (refine Fin.cB I C ?_;exact aJ))
  all_goals (exfalso;clear I;grind)
 | true=>
  rw [he,ar];simp only [f8,i8,al6] at ar;obtain ⟨rfl,rfl,rfl,rfl,rfl⟩:=ar;rw [show (p==p)=true from beq_iff_eq.2 C] at U;refine dt ?_;refine aa.dh 11 C ba ?_;refine dU ?_;refine aa.dh 18 C ba ?_;refine dU ?_;refine aa.dh 25 C ba ?_;refine dU ?_;refine aa.dh 32 C ba ?_;refine b' ?_;refine ae.b5 [51] C I (σ:=Nat) (fun j=>[(52,.int .i64 (j:Int))]) (fun _=>[]) (fun j=>j=0) (fun j=>0) 0 C (cl C) .nil ?_;rintro j rfl I
  try simp only at I ⊢
  refine bl ?_;exact bB I
def pk (p:bT) (n:Int):List bP:=small (bW.laid [] (xL p n))
theorem Qv {p:bT} (n:Int) (he:hy p n=0):qQ (bW.laid [] (xL p n)):=by
 rw [EJ];obtain ⟨dk,fq,cX,e7,gh⟩:=zO he;have p4:2^(ct p n).length≤2^7:=ag2 af fq;have fC:=Cq (ca p) (ct p n);have q':=vw (ct p n).length (dp p n (ct p n)) _ (hF (ca p) (ct p n)) (g8 _);have om:=CD (P:=fun ms=>ms.length≤16) (ct p n).length (dp p n (ct p n)) ba (fun v=>by have:=zJ n (ct p n) v p.methods 0;have:=(uk dk).1;unfold dp;omega) _ (hF (ca p) (ct p n)) (g8 _);exact Qq om af
theorem abr {p:bT} (n:Int) (he:hy p n=0):(pk p n).length≤1000∧∀ x∈pk p n,x.ms.length≤16:=abq (Qv n he)
theorem J4 (v i:Nat) (aw:v<2^63) (aR:i<64):aT d0 126 [.int .i64 (v:Int),.int .i64 (i:Int)] (.bool (v.testBit i)):=by
 have an:=bD;refine aT.bh ah Tryz.func126 C C fun s I=>?_
 have mf:((((v >>> i) &&& 1:Nat):Int)==1)=v.testBit i:=BU v i;refine dt ?_;refine aa.shr _ C C C C C C af (tJ af) ?_;refine aa.bits _ C C C C C C (AU (n:=1) (ak1 (ap3 v i) aw) af) ?_;refine er ?_;exact Fin.cB I C (aQ.of_eq (ae7 ag.bool mf))
theorem abt (f:ak):aT d0 189 [f.bK] (.bool f.c5):=by
 have an:=bD;refine aT.bh ah Tryz.func189 C C fun s I=>?_
 rw [ak.b6]
 repeat' (first|(with_reducible first|apply ae.seq|apply b0|apply ae.ret)|refine c4 C ?_|refine ae.cF ?_|refine aa.nil ?_|refine cv C ?_|refine aa.skip C C C ?_|(fail_if_success refine aa.same true C ?_);(fail_if_success refine aa.same false C ?_);refine aa.hh C C (fun h=>?_) (fun h=>?_))
 all_goals (refine Fin.cB I C (aQ.of_eq (ae7 ag.bool ?_));clear I;unfold ak.c5;grind)
theorem abu (w:bz) (l:List ak) (f:ak) (aC:iD w l) (az:l.length<bC) (a7:gH w f=true∧f.c5=true):aT d0 190 [dd l,f.bK] (.bool (l.any fun x=>fT x f)):=by
 have an:=bD;refine aT.bh ah Tryz.func190 C C fun s I=>?_
 have aE:=x4 a7.1 a7.2;have aF:=s4 a7.1 a7.2;unfold dd;rw [ak.b6];unfold ak.cells;refine fP ?_;refine ae.b5 [0,3] C I (σ:=Nat) (fun j=>[(5,.int .i64 (j:Int))]) (fun _=>[]) (fun j=>j≤l.length∧(l.any fun x=>fT x f)=(l.drop j).any fun x=>fT x f) (fun j=>l.length-j) 0 ⟨g7 _,rfl⟩ (cl C) aX ?_;rintro j ⟨aL,aq⟩ I
 try simp only at aL aq I ⊢
 refine b7 ?_;refine ae.cond C (fun au=>?_) (fun aV=>?_);rotate_left
 ·have aV:j=l.length:=by simp at aV;omega
  rw [eD af,aA6] at aq;rw [aq];refine ez ?_;exact bB I
 have au:j<l.length:=by simpa using au
 obtain ⟨x,ab,bL⟩:=b8 (f:=ak.bK) au;have Fv:=aC x (d5 ab);have h3:=Qu x f (x4 Fv.1 Fv.2) aE (by have:=s4 Fv.1 Fv.2;omega) af;rw [drop_cons ab,aj8] at aq;rw [ak.b6] at bL;rw [ak.b6,ak.b6] at h3;unfold ak.cells at bL h3;cases aB:fT x f with
 | true=>
  rw [aB] at h3 aq;rw [aq];refine b' ?_;exact bB I
 | false=>
  rw [aB] at h3 aq;refine b' ?_;exact bn.mk (j+1) I ⟨au,aq⟩ cj aX n4
theorem abv (l:List ak) (x:ak) (r:List ak):(kY (x::r)).foldl hS l=(kY r).foldl hS ((js x).foldl hS l):=by
 rw [kY,ao0]
mutual
theorem Qw:∀ f:ak,(js f).length≤f.size
  | .mk o a p c n ks=>by
    have h:=Qx ks;have e:=(ak.mk o a p c n ks).size_eq;have y8:(ak.mk o a p c n ks).kids=ks:=rfl;rw [y8] at e;rw [js];split
    · simp;omega
    · omega
theorem Qx:∀ l:List ak,(kY l).length≤ak.hN l
  | []=>g7 _
  | x::r=>by
    have U:=Qw x;have ad:=Qx r;rw [kY,ak.hN,f6];omega
end
def Fw (own:bN) (l:List ak):a':=[(own,.row 58 6 l.length)]
def Fx (own:bN) (l:List ak):ag := .aA 6 (l.map ak.bK) own
theorem abw (w:bz):∀ (k:Nat) (f:ak),f.size≤k→gH w f=true→∀ (l:List ak) (own:bN),iD w l→l.length+f.size<bC →
  bA d0 153 [Fx own l,f.bK] (Fw own l) (fun o K=>∃ cM,o = .ret (Fx cM ((js f).foldl hS l))∧K=Fw cM ((js f).foldl hS l)):=by
 have an:=bD;intro k
 induction k with
 | zero=>intro f h;have:=f.size_eq;omega
 | succ k a1=>
  intro f aE av l own aC hlen;have iL:=f.size_eq;have ll:=ak.qq f.kids;have zI:=av;rw [oL,f8] at av;have U:=abt f;refine bA.bh ah Tryz.func153 C C fun s I=>?_
  unfold Fx Fw at *;rw [EE];cases hP:f.c5 with
  | true=>
   have y8:=x4 zI hP;have ad:=abu w l f aC af ⟨zI,hP⟩;have aR:[f].foldl hS l=if l.any (fun x=>fT x f) then l else l++[f]:=rfl
   rw [g6 C,aR];rw [hP] at U;unfold dd at ad;rw [ak.b6] at U ad ⊢;unfold ak.cells at *;rw [y8] at U ad ⊢;cases aB:l.any (fun x=>fT x f) with
   | true=>
    rw [aB] at ad;rw [g6 C];refine b' ?_;refine ae.b5 [0,3] C I (σ:=Nat) (fun j=>[(5,.int .i64 (j:Int))]) (fun _=>[(own,.row 58 6 l.length)]) (fun j=>j=0) (fun j=>0) 0 C (cl C) (aG.dB _) ?_;rintro j rfl I
    try simp only at I ⊢
    refine bl ?_;exact Fin.bs (K:=[(own,.row 58 6 l.length)]) I C aJ (aG.dB _) ⟨own,rfl,rfl⟩
   | false=>
    rw [aB] at ad;rw [f0 ba];refine b' ?_;refine aa.fO ah I C C C C C C C di C C C C C C C C aW gY zq af (fun bR I=>?_);have bU:l.map ak.bK++[ag.agg [.int .i64 f.op,.int .i64 f.arg,.aA 1 (f.path.map fun i => .int .i64 i) .bb,.int .i64 f.cls,.int .i64 f.n,.aA 6 (List.map ak.bK []) .bb]]=(l++[f]).map ak.bK:=by
     rw [ad',ae3,ah1,ak.b6];unfold ak.cells;rw [y8];rfl
    rw [bU];refine bl ?_;refine ae.b5 [0,3] C I (σ:=Nat) (fun j=>[(5,.int .i64 (j:Int))]) (fun _=>[((.own bR),.row 58 6 (l++[f]).length)]) (fun j=>j=0) (fun j=>0) 0 C (cl C) (by rw [f6];exact aG.dB _) ?_;rintro j rfl I
    try simp only at I ⊢
    refine bl ?_;exact Fin.bs (K:=[((.own bR),.row 58 6 (l++[f]).length)]) I C aJ (aG.dB _) ⟨(.own bR),rfl,rfl⟩
  | false=>
   rw [f0 ba];rw [hP] at U;rw [ak.b6] at U ⊢;unfold ak.cells at *;refine b' ?_;refine ae.b5 [3] C I (σ:=Nat×List ak×bN) (fun q=>[(5,.int .i64 (q.1:Int)),(0,.aA 6 (q.2.1.map ak.bK) q.2.2)]) (fun q=>[(q.2.2,.row 58 6 q.2.1.length)]) (fun q=>q.1≤f.kids.length∧(kY f.kids).foldl hS l=(kY (f.kids.drop q.1)).foldl hS q.2.1∧iD w q.2.1∧q.2.1.length+ak.hN (f.kids.drop q.1)<bC) (fun q=>f.kids.length-q.1) (0,l,own) ⟨g7 _,rfl,aC,by show l.length+ak.hN f.kids<bC;omega⟩ (cl C) (aG.dB _) ?_;rintro ⟨j,c,qE⟩ ⟨aL,aq,aB,cy⟩ I
   try simp only at aL aq aB cy I ⊢
   refine b7 ?_;refine ae.cond C (fun au=>?_) (fun aV=>?_);rotate_left
   ·have aV:j=f.kids.length:=by simp at aV;omega
    rw [eD af,kY,au4] at aq;rw [aq];refine ez ?_;exact Fin.bs (K:=[(qE,.row 58 6 c.length)]) I C aJ (aG.dB _) ⟨qE,rfl,rfl⟩
   have au:j<f.kids.length:=by simpa using au
   obtain ⟨x,ab,bL⟩:=b8 (f:=ak.bK) au;have zH:=kr av.2 (d5 ab);have c':=ak.h8 (d5 ab);rw [drop_cons ab,ak.hN] at cy;rw [drop_cons ab,abv] at aq;have i1:=a1 x af zH c qE aB af;have aI:=JB (w:=w) 0 (js x) c aB (E7 x w zH);have cc:=Qw x;rw [ak.b6] at i1 bL;unfold ak.cells at i1 bL;refine dG ?_;refine aa.bX rfl rfl rfl rfl rfl i1 I (aG.dB _) ?_ (fun _ _ h _=>by obtain ⟨_,h,_⟩:=h;cases h);rintro _ _ ⟨bR,⟨⟩,rfl⟩ I;simp only [d6,aa',d8] at I ⊢;refine fj ?_;exact bn.mk (j+1,(js x).foldl hS c,bR) I ⟨au,aq,aI.1,by show ((js x).foldl hS c).length+ak.hN (f.kids.drop (j+1))<bC;omega⟩ cj (aG.dB _) oR
theorem Fy (p:bT) (aF:ga p) (dk:gA p=true) (n:Int):aT d0 112 [cW p,.int .i64 n] (dd (ct p n)):=by
 have an:=bD;have ht:=(uk dk).1;have U:=fun (f:ak) av l own aC hlen=>abw (ca p) f.size f (g8 _) av l own aC hlen
 have sh:∀ j,(p.methods.take j).foldl (iP n) []=(p.methods.take j).foldl (iP n) []:=fun _=>rfl
 refine aT.bh ah Tryz.func112 C C fun s I=>?_
 unfold cW cZ dd Fx Fw at *;refine fP ?_;refine ae.h0 I 58 6 0 fun I=>?_
 refine ae.b5 [1,2] C I (σ:=Nat×bN) (fun q=>[(6,.int .i64 (q.1:Int)),(5,.aA 6 (((p.methods.take q.1).foldl (iP n) []).map ak.bK) q.2)]) (fun q=>[(q.2,.row 58 6 ((p.methods.take q.1).foldl (iP n) []).length)]) (fun q=>q.1≤p.methods.length) (fun q=>p.methods.length-q.1) (0,.nil) (g7 _) ⟨⟨_,rfl,aJ⟩,⟨_,rfl,aQ.nil gN⟩,trivial⟩ (aG.dB _) ?_;rintro ⟨j,own⟩ aL I;simp only at aL I ⊢;refine b7 ?_;refine ae.cond C (fun au=>?_) (fun aV=>?_);rotate_left
 ·have aV:j=p.methods.length:=by simp at aV;omega
  subst aV;rw [ae5];refine ez ?_;exact Fin.cB I C aQ.bb
 have au:j<p.methods.length:=by simpa using au
 obtain ⟨m,ab,bL⟩:=b8 (f:=lM) au;have yD:=d5 ab;have abx:=Ch dk yD;have k4:=JC dk n (p.methods.take j) [] (fun m hm=>ap0 hm) (fun _ h=>by cases h);have w6:(p.methods.take j).length≤16:=by rw [ae8];omega
 have t':=aF.facts m yD;have aI:(p.methods.take (j+1)).foldl (iP n) []=iP n ((p.methods.take j).foldl (iP n) []) m:=by rw [il ab,ao0];rfl
 have U:=U m.fact (sr _ _ _ _ abx) ((p.methods.take j).foldl (iP n) []) own k4.1 (by have:=k4.2;simp only [af6] at this;omega);generalize (p.methods.take j).foldl (iP n) []=c at *;rw [show iP n c m=if m.gen=n then (js m.fact).foldl hS c else c from rfl] at aI;rw [ak.b6] at U;unfold ak.cells at U;unfold lM n2 at bL;refine dG ?_;refine ae.cond C (fun av=>?_) (fun av=>?_);rotate_left
 ·rw [f0 (by simpa using av)] at aI
  refine gx ?_;exact bn.mk (j+1,own) I au JP (by simp only [aI];exact aG.dB _) o9
 rw [g6 (by simpa using av)] at aI;refine dG ?_;refine aa.bX rfl rfl rfl rfl rfl U I (aG.dB _) ?_ (fun _ _ h _=>by obtain ⟨_,h,_⟩:=h;cases h);rintro _ _ ⟨bR,⟨⟩,rfl⟩ I;simp only [d6,aa',d8] at I ⊢;refine fj ?_;exact bn.mk (j+1,bR) I au JP (by simp only [aI];exact aG.dB _) o9
def oo (w:bz) (L:List ch):Prop:=L.length<4096∧ua w L
theorem oo.at {w:bz} {L:List ch} (h:oo w L) {x:ch} (ab:x∈L):x.1.c5=true∧x.1.path.length≤2 ∧ -1000000000≤x.1.n∧x.1.n≤1000000000∧(x.1.op=2→0≤x.1.cls∧x.1.cls<3+(w.ps.length:Int)):=by
 obtain ⟨az,aC⟩:=h.2 x ab;refine ⟨aC,(Eu az aC).1,?_⟩;simp only [ik,aC,ag7,f8,i8] at az;have ad:=az.2.2.2.2.2.2.2;unfold kN at ad;by_cases al:x.1.op=2
 ·rw [g6 al] at ad
  simp only [f8,i8] at ad;exact ⟨by omega,by omega,fun _=>ad.2⟩
 ·rw [f0 al] at ad
  simp only [f8,i8] at ad;exact ⟨by omega,by omega,fun h=>absurd h al⟩
theorem oo.on {w:bz} {L:List ch} (h:oo w L) (arg:Int) (path:List Int):oo w (ft L arg path):=
 ⟨ak1 (aj2 _ _) h.1,fun x ab=>h.2 x (ah6.1 ab).1⟩
theorem aby (L:List ch) (arg:Int) (path:List Int):(ft L arg path).length≤L.length:=aj2 _ _
theorem abz {L:List ch} {j:Nat} {x:ch} (h:L[j]? = some x) (q:ch→Bool):(L.take (j+1)).filter q=(L.take j).filter q++(if q x then [x] else []):=by
 rw [il h,ao7];congr 1;by_cases br:q x=true
 ·rw [g6 br,ah9,g6 br];rfl
 ·rw [f0 br,ah9,f0 br];rfl
theorem J5 (w:bz) (L:List ch) (arg:Int) (path:List Int) (bM:oo w L) (aF:path.length≤3):aT d0 212 [kW w L arg path] (oZ (ft L arg path)):=by
 have an:=bD;have Qy:=bM.1;refine aT.bh ah Tryz.func212 C C fun s I=>?_
 obtain ⟨xs,c'⟩:∃ xs:Nat→List ag,∀ j,xs j=(ft (L.take j) arg path).map (fun x=>(iB x).bK):=⟨_,fun _=>rfl⟩;have bq:xs 0=[]:=by rw [c'];rfl
 have y5:∀ j,(xs j).length≤L.length:=fun j=>by
  rw [c',d9];refine am' (aby _ _ _) ?_;rw [ae8];omega
 unfold kW oZ df bd;refine fP ?_;refine ae.h0 I 58 6 0 fun I=>?_
 refine ae.b5 [1,9,10] C I (σ:=Nat×bN) (fun q=>[(11,.int .i64 (q.1:Int)),(3,.aA 6 (xs q.1) q.2)]) (fun q=>[(q.2,.row 58 6 (xs q.1).length)]) (fun q=>q.1≤L.length) (fun q=>L.length-q.1) (0,.nil) (g7 _) ⟨⟨_,rfl,aJ⟩,⟨_,rfl,by rw [bq];exact aQ.nil gN⟩,trivial⟩ xd ?_;rintro ⟨j,own⟩ aL I;simp only at aL I ⊢;refine b7 ?_;refine ae.cond C (fun au=>?_) (fun aV=>?_);rotate_left
 ·have aV:j=L.length:=by simp at aV;omega
  subst aV;have he:xs L.length=(ft L arg path).map (fun x=>(iB x).bK):=by rw [c',ae5]
  rw [he];refine ez ?_;exact Fin.cB I C aQ.bb
 have au:j<L.length:=by simpa using au
 obtain ⟨x,ab,bL⟩:=b8 (f:=fun x:ch=>(iB x).bK) au;have fm:=bM.at (d5 ab);have dn:=zf x fm.1;have bL:(L.map fun x=>(iB x).bK)[j]? = some (iB x).bK:=bL;rw [ak.b6] at bL;simp only [ak.b6] at dn;have x':=u4 x.1.path path (by have:=fm.2.1;omega) af;have ar:=c' (j+1);have l1:=y5 j;unfold ft at ar;rw [abz ab] at ar;unfold ak.cells at bL dn;unfold bd at x';refine et ?_;by_cases a6:x.1.arg=arg;rotate_left
 ·have a7:rR arg path x=false:=by unfold rR;rw [ab' a6];rfl
  rw [a7,f0 ba,d6] at ar;have ar:xs (j+1)=xs j:=by rw [ar,c'];rfl
  refine aa.dh 25 C (by simpa using a6) ?_;refine bl ?_;exact bn.mk (j+1,own) I au kM Bf zM
 refine aa.dY 25 C (by simpa using a6) ?_;cases br:x.1.path==path with
 | false=>
  have a7:rR arg path x=false:=by unfold rR;rw [br,ak8]
  rw [a7,f0 ba,d6] at ar;have ar:xs (j+1)=xs j:=by rw [ar,c'];rfl
  rw [br] at x';refine b' ?_;exact bn.mk (j+1,own) I au kM Bf zM
 | true=>
  have a7:rR arg path x=true:=by unfold rR;rw [br,i7 a6];rfl
  rw [a7,g6 C,ad'] at ar;have ar:xs (j+1)=xs j++[(iB x).bK]:=by rw [ar,c'];rfl
  rw [ak.b6] at ar;unfold ak.cells at ar;have cR:(xs (j+1)).length=(xs j).length+1:=by rw [ar];simp
  rw [br] at x';refine c2 ?_;refine aa.fO ah I C C C C C C C di C C C C C C C C aW gY zq af (fun bR I=>?_);refine fj ?_;exact bn.mk (j+1,.own bR) I au kM u9 zM
theorem Qz (w:bz) (L:List ch) (arg:Int) (path:List Int) (bM:oo w L) (aF:path.length≤3):aT d0 217 [kW w L arg path] (.bool (lo L arg path)):=by
 have an:=bD;refine aT.bh ah Tryz.func217 C C fun s I=>?_
 have Qy:=bM.1;have cG:lo L arg path = !L.any fun x => !x.2&&ln arg path x:=rfl
 unfold kW oZ df bd;refine fP ?_;refine ae.b5 [1,8,9] C I (σ:=Nat) (fun j=>[(10,.int .i64 (j:Int))]) (fun _=>[]) (fun j=>j≤L.length∧(L.any fun x => !x.2&&ln arg path x)=(L.drop j).any fun x => !x.2&&ln arg path x) (fun j=>L.length-j) 0 ⟨g7 _,rfl⟩ (cl C) aX ?_;rintro j ⟨aL,aq⟩ I
 try simp only at aL aq I ⊢
 refine b7 ?_;refine ae.cond C (fun au=>?_) (fun aV=>?_);rotate_left
 ·have aV:j=L.length:=by simp at aV;omega
  rw [eD af,aA6] at aq;rw [cG,aq];refine ez ?_;exact bB I
 have au:j<L.length:=by simpa using au
 obtain ⟨x,ab,bL⟩:=b8 (f:=fun x:ch=>(iB x).bK) au;have fm:=bM.at (d5 ab);have dn:=zf x fm.1;have bL:(L.map fun x=>(iB x).bK)[j]? = some (iB x).bK:=bL;rw [ak.b6] at bL;simp only [ak.b6] at dn;have vO:=Oa x.1.path path (by have:=fm.2.1;omega) af;rw [drop_cons ab,aj8] at aq;rw [show ln arg path x=(decide (x.1.arg=arg)&&vm x.1.path path) from rfl] at aq;unfold ak.cells at bL dn;unfold bd at vO;cases az:x.2 with
 | true=>
  rw [az] at dn aq;refine et ?_;exact bn.mk (j+1) I ⟨au,by rw [aq];rfl⟩ cj aX zM
 | false=>
  rw [az] at dn aq;refine et ?_;by_cases a6:x.1.arg=arg;rotate_left
  ·rw [ab' a6] at aq
   refine aa.dh 28 C (by simpa using a6) ?_;refine bl ?_;exact bn.mk (j+1) I ⟨au,by rw [aq];rfl⟩ cj aX zM
  refine aa.dY 28 C (by simpa using a6) ?_;rw [i7 a6] at aq;cases br:vm x.1.path path with
  | false=>
   rw [br] at vO aq;refine b' ?_;exact bn.mk (j+1) I ⟨au,by rw [aq];rfl⟩ cj aX zM
  | true=>
   rw [br] at vO aq;rw [cG,aq];refine b' ?_;exact bB I
theorem QA (w:bz) (hw:w.owner.length≤40) (L:List ch) (arg:Int) (path:List Int) (bM:oo w L) (aF:path.length≤2):aT d0 215 [kW w L arg path] (bd (jV w.owner.length L arg path)):=by
 have an:=bD;have Qy:=bM.1;refine aT.bh ah Tryz.func215 C C fun s I=>?_
 obtain ⟨xs,c'⟩:∃ xs:Nat→List ag,∀ j,xs j=(jV j L arg path).map a8:=⟨_,fun _=>rfl⟩;have bq:xs 0=[]:=by rw [c'];rfl
 have fm:∀ j,(xs j).length≤j:=fun j=>by
  rw [c',d9];unfold jV;rw [d9];refine am' (aj2 _ _) (Nat.le_of_eq ap5)
 have vH:∀ j,xs (j+1)=xs j++(if nA L arg path (j:Nat) then [.int .i64 (j:Nat)] else []):=fun j=>by
  rw [c',c'];unfold jV;rw [aq2,ao7,ad',ad'];congr 1;cases h:nA L arg path (j:Nat) with
  | true=>rw [ah9,g6 (by exact h)];rfl
  | false=>rw [ah9,f0 (by rw [h];simp)];rfl
 have kP:=fun k:Nat=>IC w L arg path (k:Int) af
 have lL:∀ k:Nat,(path++[(k:Int)]).length≤3:=fun k=>by rw [f6];simp;omega
 unfold kW oZ df bd at *;refine fP ?_;refine ae.h0 I 3 1 0 fun I=>?_
 refine ae.b5 [1,13] C I (σ:=Nat×bN) (fun q=>[(14,.int .i64 (q.1:Int)),(3,.aA 1 (xs q.1) q.2)]) (fun q=>[(q.2,.row 3 1 (xs q.1).length)]) (fun q=>q.1≤w.owner.length) (fun q=>w.owner.length-q.1) (0,.nil) (g7 _) ⟨⟨_,rfl,aJ⟩,⟨_,rfl,by rw [bq];exact aQ.nil gN⟩,trivial⟩ xd ?_;rintro ⟨j,own⟩ aL I;simp only at aL I ⊢;refine b7 ?_;refine ae.cond C (fun au=>?_) (fun aV=>?_);rotate_left
 ·have aV:j=w.owner.length:=by simp at aV;omega
  subst aV;rw [c'];refine ez ?_;exact Fin.cB I C aQ.bb
 have au:j<w.owner.length:=by simpa using au
 have ar:=vH j;have l1:=fm j;have xw:=lL j;have kP:=kP j;refine kq ?_;refine ae.b5 [1,3,4,13,14,18,19] C I (σ:=Nat) (fun k=>[(20,.int .i64 (k:Int)),(5,.bool ((L.take k).any (ln arg (path++[(j:Int)]))))]) (fun _=>[(own,.row 3 1 (xs j).length)]) (fun k=>k≤L.length) (fun k=>L.length-k) 0 (g7 _) (cl C) (aG.dB _) ?_;rintro k aE I
 try simp only at aE I ⊢
 refine b7 ?_;refine ae.cond C (fun cI=>?_) (fun dV=>?_);rotate_left
 ·have dV:k=L.length:=by simp at dV;omega
  subst dV;rw [ae5];have aN:nA L arg path (j:Nat)=L.any (ln arg (path++[(j:Int)])):=rfl;rw [aN] at ar;cases aB:L.any (ln arg (path++[(j:Int)])) with
  | false=>
   rw [aB,f0 ba,d6] at ar;refine bl ?_;exact bn.mk (j+1,own) I au kM Bf D9
  | true=>
   rw [aB,g6 C] at ar;have cR:(xs (j+1)).length=(xs j).length+1:=by rw [ar];simp
   refine bl ?_;refine aa.fO ah I C C C C C C C di C C C C C C C C aW gY jS af (fun bR I=>?_);refine fj ?_;exact bn.mk (j+1,.own bR) I au kM u9 D9
 have cI:k<L.length:=by simpa using cI
 obtain ⟨x,ab,bL⟩:=b8 (f:=fun x:ch=>(iB x).bK) cI;have fm:=bM.at (d5 ab);have dn:=zf x fm.1;have bL:(L.map fun x=>(iB x).bK)[k]? = some (iB x).bK:=bL;rw [ak.b6] at bL;simp only [ak.b6] at dn;have vO:=Oa x.1.path (path++[(j:Int)]) (by have:=fm.2.1;omega) af;have om:(L.take (k+1)).any (ln arg (path++[(j:Int)]))=((L.take k).any (ln arg (path++[(j:Int)]))||ln arg (path++[(j:Int)]) x):=by rw [il ab,List.any_append];simp
 unfold ak.cells at bL dn;unfold bd a8 at *;cases aB:(L.take k).any (ln arg (path++[(j:Int)])) with
 | true=>
  rw [aB,ak3] at om;refine et ?_;exact bn.mk (k+1) I cI Fj (aG.dB _) Fk
 | false=>
  rw [aB,ag6] at om;rw [show ln arg (path++[(j:Int)]) x=(decide (x.1.arg=arg)&&vm x.1.path (path++[(j:Int)])) from rfl] at om;refine et ?_;by_cases a6:x.1.arg=arg;rotate_left
  ·rw [ab' a6,f9] at om
   refine aK.split 36 C (fun h=>absurd e2 a6) (fun _=>?_);refine j8 ?_;exact bn.mk (k+1) I cI Fj (aG.dB _) Fk
  rw [i7 a6,f5] at om;refine aK.split 36 C (fun _=>?_) (fun h=>absurd a6 e2);cases br:vm x.1.path (path++[(j:Int)]) with
  | false=>
   rw [br] at vO om;refine b' ?_;exact bn.mk (k+1) I cI Fj (aG.dB _) Fk
  | true=>
   rw [br] at vO om;refine b' ?_;exact bn.mk (k+1) I cI Fj (aG.dB _) Fk
theorem QB (w:bz) (hw:w.owner.length≤40) (L:List ch) (arg:Int) (path:List Int) (bM:oo w L) (aF:path.length≤2):aT d0 214 [kW w L arg path] (.bool (sM w.owner.length L arg path)):=by
 have an:=bD;refine aT.bh ah Tryz.func214 C C fun s I=>?_
 have U:=QA w hw L arg path bM aF;have eS:sM w.owner.length L arg path=(jV w.owner.length L arg path).all fun s=>lo L arg (path++[s]):=rfl
 have kP:=fun k:Int=>IC w L arg path k af
 have lL:∀ k:Int,(path++[k]).length≤3:=fun k=>by rw [f6];simp;omega
 have ie:=fun k:Int=>Qz w L arg (path++[k]) bM (lL k)
 have mO:(jV w.owner.length L arg path).length≤40:=by
  unfold jV;rw [d9];have:=aj2 (fun s:Nat=>nA L arg path (s:Nat)) (ag3 w.owner.length);rw [ap5] at this;omega
 generalize jV w.owner.length L arg path=l at U eS mO;rw [eS];unfold kW oZ df bd at *;refine b' ?_;refine ae.b5 [1,6,7] C I (σ:=Nat) (fun j=>[(8,.int .i64 (j:Int))]) (fun _=>[]) (fun j=>j≤l.length∧(l.all fun s=>lo L arg (path++[s]))=(l.drop j).all fun s=>lo L arg (path++[s])) (fun j=>l.length-j) 0 ⟨g7 _,rfl⟩ (cl C) aX ?_;rintro j ⟨aL,aq⟩ I
 try simp only at aL aq I ⊢
 refine b7 ?_;refine ae.cond C (fun au=>?_) (fun aV=>?_);rotate_left
 ·have aV:j=l.length:=by simp at aV;omega
  rw [eD af,ao3] at aq;rw [aq];refine ez ?_;exact bB I
 have au:j<l.length:=by simpa using au
 obtain ⟨x,ab,bL⟩:=b8 (f:=a8) au;rw [drop_cons ab,ak6] at aq;have kP:=kP x;have ie:=ie x;unfold a8 at *;cases aB:lo L arg (path++[x]) with
 | false=>
  rw [aB] at ie aq;rw [aq];refine b' ?_;exact bB I
 | true=>
  rw [aB] at ie aq;refine b' ?_;exact bn.mk (j+1) I ⟨au,by rw [aq];rfl⟩ cj aX n4
theorem J6 {a b:Int} {p q:List Int} (aF:p.length≤2) (br:q.length≤2) (h:bx a p=bx b q):a=b∧p=q:=by
 unfold bx at h;simp only [List.cons.injEq,and_true] at h;obtain ⟨U,ad,al,bf⟩:=h;refine ⟨U,?_⟩
 match p,q,aF,br with
 | [],[],_,_=>rfl
 | [x],[y],_,_=>simp at al;rw [al]
 | [x,nI],[y,OE],_,_=>simp at al bf;rw [al,bf]
 | [],[_],_,_=>simp at ad
 | [],[_,_],_,_=>simp at ad
 | [_],[],_,_=>simp at ad
 | [_],[_,_],_,_=>simp at ad
 | [_,_],[],_,_=>simp at ad
 | [_,_],[_],_,_=>simp at ad
def dv.core (k:dv):dv:={ k with gC:=false,bp:=[] }
theorem abA (k:dv) (b:Bool):(k.need b).core=k.core:=rfl
theorem QC (k:dv) (s:Int):(k.slot s).core=k.core:=rfl
theorem abB (k:dv) (x:ch):(k.ask x).core=k.core.ask x:=by
 unfold dv.ask dv.core
 repeat' split
 all_goals rfl
theorem abC (k:dv) (x:ch):(k.ask x).gC=k.gC:=by
 unfold dv.ask
 repeat' split
 all_goals rfl
theorem ur (σ:d') (sp:List Int) (k:dv) (q:List Int):(σ.h2 sp k) q=if q=sp then k else σ q:=rfl
theorem zU (neg:Bool) (arg:Int) (path:List Int):∀ (j:Nat) (σ:d') (q:List Int),((hb neg arg path j σ) q).core=(σ q).core
  | 0,σ,q=>by
    rw [hb,ur];split
    · rename_i h;subst h;rfl
    · rfl
  | j+1,σ,q=>by
    rw [hb];simp only [ur];by_cases U:q=bx arg (path.take (j+1))
    · rw [g6 U,abA]
      split
      · rename_i ad;rw [QC,zU,U,ad]
      · rw [zU,U]
    · rw [f0 U]
      split
      · rename_i ad;rw [QC,zU,ad]
      · rw [zU]
theorem QD (neg:Bool) (arg:Int) (path:List Int) (q:List Int):∀ (j:Nat) (σ:d'),(((hb neg arg path j σ) q).gC=true↔(σ q).gC=true∨neg=false∧∃ i,i≤j∧q=bx arg (path.take i))
  | 0,σ=>by
    rw [hb,ur];by_cases h:q=bx arg []
    · rw [g6 h]
      unfold dv.need;simp only [aj1,ai5];rw [h];constructor
      · rintro (U|U)
        · exact .inl U
        · exact .inr ⟨U,0,g8 _,by simp⟩
      · rintro (U|⟨U,_⟩)
        · exact .inl U
        · exact .inr U
    · rw [f0 h]
      constructor
      · exact .inl
      · rintro (U|⟨_,i,aR,U⟩)
        · exact U
        · exact absurd (by rw [U,show i=0 by omega];simp) h
  | j+1,σ=>by
    have a1:=QD neg arg path q j σ;rw [hb];simp only [ur];by_cases h:q=bx arg (path.take (j+1))
    · rw [g6 h]
      unfold dv.need;simp only [aj1,ai5];have e:∀ k:dv,(k.slot (path.getD j 0)).gC=k.gC:=fun k=>rfl
      have:(if bx arg (path.take (j+1))=bx arg (path.take j) then ((hb neg arg path j σ) (bx arg (path.take j))).slot (path.getD j 0) else (hb neg arg path j σ) (bx arg (path.take (j+1)))).gC=((hb neg arg path j σ) q).gC:=by
        split
        · rename_i ad;rw [e,h,ad]
        · rw [h]
      rw [this,a1];constructor
      · rintro ((U|⟨U,i,aR,ad⟩)|U)
        · exact .inl U
        · exact .inr ⟨U,i,by omega,ad⟩
        · exact .inr ⟨U,j+1,g8 _,h⟩
      · rintro (U|⟨U,_⟩)
        · exact .inl (.inl U)
        · exact .inr U
    · rw [f0 h]
      have:(if q=bx arg (path.take j) then ((hb neg arg path j σ) (bx arg (path.take j))).slot (path.getD j 0) else (hb neg arg path j σ) q).gC=((hb neg arg path j σ) q).gC:=by
        split
        · rename_i ad;rw [← ad];rfl
        · rfl
      rw [this,a1];constructor
      · rintro (U|⟨U,i,aR,ad⟩)
        · exact .inl U
        · exact .inr ⟨U,i,by omega,ad⟩
      · rintro (U|⟨U,i,aR,ad⟩)
        · exact .inl U
        · rcases aq' i (j+1) with al|al
          · exact .inr ⟨U,i,by omega,ad⟩
          · exact absurd (by rw [ad,show i=j+1 by omega]) h
theorem QE (neg:Bool) (arg:Int) (path:List Int) (q:List Int) (s:Int):∀ (j:Nat) (σ:d'),(s∈((hb neg arg path j σ) q).bp↔s∈(σ q).bp∨∃ i,i<j∧q=bx arg (path.take i)∧s=path.getD i 0)
  | 0,σ=>by
    rw [hb,ur];have:(if q=bx arg [] then (σ (bx arg [])).need neg else σ q).bp=(σ q).bp:=by
      split
      · rename_i h;rw [h];rfl
      · rfl
    rw [this];constructor
    · exact .inl
    · rintro (h|⟨i,h,_⟩)
      · exact h
      · omega
  | j+1,σ=>by
    have a1:=QE neg arg path q s j σ;rw [hb];simp only [ur]
    have e:(if q=bx arg (path.take (j+1)) then (if bx arg (path.take (j+1))=bx arg (path.take j) then ((hb neg arg path j σ) (bx arg (path.take j))).slot (path.getD j 0) else (hb neg arg path j σ) (bx arg (path.take (j+1)))).need neg
        else (if q=bx arg (path.take j) then ((hb neg arg path j σ) (bx arg (path.take j))).slot (path.getD j 0) else (hb neg arg path j σ) q)).bp=(if q=bx arg (path.take j) then ((hb neg arg path j σ) q).slot (path.getD j 0) else (hb neg arg path j σ) q).bp:=by
      by_cases h:q=bx arg (path.take (j+1))
      · rw [g6 h,h]
        show (if _ then _ else _:dv).bp=_;split
        · rename_i ad;rw [ad]
        · rfl
      · rw [f0 h]
        split
        · rename_i ad;rw [ad]
        · rfl
    rw [e];by_cases h:q=bx arg (path.take j)
    · rw [g6 h]
      show s∈nx _ _↔_;rw [N8,a1];constructor
      · rintro (U|U|⟨i,aR,U,ad⟩)
        · exact .inr ⟨j,aj6 _,h,U⟩
        · exact .inl U
        · exact .inr ⟨i,by omega,U,ad⟩
      · rintro (U|⟨i,aR,U,ad⟩)
        · exact .inr (.inl U)
        · rcases aq' i j with al|al
          · exact .inr (.inr ⟨i,al,U,ad⟩)
          · rw [show i=j by omega] at ad;exact .inl ad
    · rw [f0 h,a1]
      constructor
      · rintro (U|⟨i,aR,U,ad⟩)
        · exact .inl U
        · exact .inr ⟨i,by omega,U,ad⟩
      · rintro (U|⟨i,aR,U,ad⟩)
        · exact .inl U
        · rcases aq' i j with al|al
          · exact .inr ⟨i,al,U,ad⟩
          · exact absurd (by rw [U,show i=j by omega]) h
theorem ua.path {w:bz} {L:List ch} (h:ua w L):∀ x∈L,x.1.path.length≤2:=fun x ab=>(Eu (h x ab).1 (h x ab).2).1
theorem abD (σ:d') (x:ch) (q:List Int):((addLit σ x) q).core=if q=bx x.1.arg x.1.path then (σ q).core.ask x else (σ q).core:=by
 unfold addLit;rw [ur];split
 ·rename_i h;rw [abB,zU,h]
 ·rw [zU]
theorem abE (σ:d') (x:ch) (q:List Int):((addLit σ x) q).gC=true↔(σ q).gC=true∨x.2=false∧∃ i,i≤x.1.path.length∧q=bx x.1.arg (x.1.path.take i):=by
 rw [← QD];unfold addLit;rw [ur];split
 ·rename_i h;rw [abC,h]
 ·rfl
theorem abF (σ:d') (x:ch) (q:List Int) (s:Int):s∈((addLit σ x) q).bp↔s∈(σ q).bp∨∃ i,i<x.1.path.length∧q=bx x.1.arg (x.1.path.take i)∧s=x.1.path.getD i 0:=by
 rw [← QE x.2];unfold addLit;rw [ur];split
 ·rename_i h;rw [N9,h]
 ·rfl
theorem Fz {x:ch} {arg:Int} {path:List Int}:ln arg path x=true↔x.1.arg=arg∧path.length≤x.1.path.length∧x.1.path.take path.length=path:=by
 unfold ln vm;simp
theorem abG {x:ch} {arg:Int} {path:List Int} (ab:x.1.path.length≤2) (aF:path.length≤2):(∃ i,i≤x.1.path.length∧bx arg path=bx x.1.arg (x.1.path.take i))↔ln arg path x=true:=by
 rw [Fz];constructor
 ·rintro ⟨i,aR,h⟩
  obtain ⟨U,ad⟩:=J6 aF uz h;have aC:path.length=i:=by rw [ad,ae8];omega
  exact ⟨U.symm,by omega,by rw [aC];exact ad.symm⟩
 ·rintro ⟨U,ad,al⟩
  exact ⟨path.length,ad,by rw [U,al]⟩
theorem QF:∀ (l:List Int) (i:Nat),i<l.length→l.take (i+1)=l.take i++[l.getD i 0]:=fun l i aR=>by
 rw [am2,d7,f7 aR];rfl
theorem abH {x:ch} {arg s:Int} {path:List Int} (ab:x.1.path.length≤2) (aF:path.length≤2):(∃ i,i<x.1.path.length∧bx arg path=bx x.1.arg (x.1.path.take i)∧s=x.1.path.getD i 0)↔ln arg (path++[s]) x=true:=by
 rw [Fz,f6,List.length_singleton];constructor
 ·rintro ⟨i,aR,h,rfl⟩
  obtain ⟨U,ad⟩:=J6 aF uz h;have aC:path.length=i:=by rw [ad,ae8];omega
  exact ⟨U.symm,by omega,by rw [aC,QF _ _ aR,← ad]⟩
 ·rintro ⟨U,ad,al⟩
  rw [QF _ _ af] at al;obtain ⟨bf,bE⟩:=List.append_inj' al rfl;exact ⟨path.length,by omega,by rw [U,bf],(List.cons.inj bE).1.symm⟩
theorem exists_cons {q:ch→Prop} {x:ch} {r:List ch}:(∃ y∈x::r,q y)↔q x∨∃ y∈r,q y:=by simp
section
variable {w:bz} {arg:Int} {path:List Int} (aF:path.length≤2)
include aF
theorem QG:∀ (L:List ch) (σ:d'),ua w L→((L.foldl addLit σ) (bx arg path)).core=(ft L arg path).foldl dv.ask (σ (bx arg path)).core
  | [],σ,_=>rfl
  | x::r,σ,h=>by
    rw [ah7,QG r _ (fun y ay=>h y (i0 _ ay)),abD];unfold ft;rw [ah9];have ab:=h.path x i6;by_cases e:rR arg path x=true
    · rw [g6 e]
      unfold rR at e;simp only [f8,i8,al6] at e;rw [g6 (by rw [e.1,e.2]),ah7]
    · rw [f0 e,f0]
      intro ad;obtain ⟨al,bf⟩:=J6 aF ab ad;exact e (by unfold rR;simp [al,bf])
theorem QH:∀ (L:List ch) (σ:d'),ua w L→(((L.foldl addLit σ) (bx arg path)).gC=true↔(σ (bx arg path)).gC=true∨∃ x∈L,x.2=false∧ln arg path x=true)
  | [],σ,_=>by simp
  | x::r,σ,h=>by
    rw [ah7,QH r _ (fun y ay=>h y (i0 _ ay)),abE,abG (h.path x i6) aF,or_assoc,exists_cons]
theorem QI (s:Int):∀ (L:List ch) (σ:d'),ua w L→(s∈((L.foldl addLit σ) (bx arg path)).bp↔s∈(σ (bx arg path)).bp∨∃ x∈L,ln arg (path++[s]) x=true)
  | [],σ,_=>by simp
  | x::r,σ,h=>by
    rw [ah7,QI s r _ (fun y ay=>h y (i0 _ ay)),abF,abH (h.path x i6) aF,or_assoc,exists_cons]
variable {L:List ch} (bM:ua w L)
include bM
theorem QJ:((ev L) (bx arg path)).gC = !lo L arg path:=by
 rw [af7];unfold ev lo;rw [QH aF L xr bM];simp [xr,je]
theorem CF (s:Int):s∈((ev L) (bx arg path)).bp↔nA L arg path s=true:=by
 unfold ev nA;rw [QI aF s L xr bM];simp [xr,je]
omit aF in
theorem ya {s:Int} (h:nA L arg path s=true):0≤s∧s<(w.owner.length:Int)∧(path++[s]).length≤2:=by
 unfold nA at h;obtain ⟨x,ab,h⟩:=ag4.1 h;obtain ⟨-,ad,al⟩:=Fz.1 h;obtain ⟨bf,bE⟩:=Eu (bM x ab).1 (bM x ab).2;have hm:s∈x.1.path:=ap0 (by rw [al];simp);have:=bE s hm;exact ⟨this.1,this.2,by omega⟩
theorem FA {s:Int}:s∈jV w.owner.length L arg path↔s∈((ev L) (bx arg path)).bp:=by
 rw [CF aF bM];unfold jV;simp only [af',ah6,ak5];constructor
 ·rintro ⟨n,⟨-,h⟩,rfl⟩;exact h
 ·intro h
  have:=ya bM h;exact ⟨s.toNat,⟨by omega,by rw [show ((s.toNat:Nat):Int)=s by omega];exact h⟩,by omega⟩
theorem abI:sM w.owner.length L arg path=BP (ev L) arg path:=by
 unfold sM BP;rw [af7,ah2,ah2];constructor <;>
 ·intro h s ar
  have hL:=ar
  first|rw [FA aF bM] at ar|rw [← FA aF bM] at ar
  have fy:nA L arg path s=true:=by
   first|exact (CF aF bM s).1 ar|exact (CF aF bM s).1 hL
  have ad:=QJ (arg:=arg) (ya bM fy).2.2 bM;have U:=h s ar;rw [ad] at *;simpa using U
end
def vP (x:ch):Bool:=decide (x.1.op=2)&&(decide (x.1.cls>1) != x.2)
theorem QK:∀ (l:List ch) (k:dv),pX l (k.low,k.high,k.e6)=if l.any vP then none else some ((l.foldl dv.ask k).low,(l.foldl dv.ask k).high,(l.foldl dv.ask k).e6)
  | [],k=>rfl
  | x::r,k=>by
    have a1:=QK r (k.ask x);rw [pX,aj8,ah7];by_cases ad:x.1.op=2
    · have e:vP x=(decide (x.1.cls>1) != x.2):=by unfold vP;rw [i7 ad,f5]
      rw [g6 ad,e];have b2:(k.ask x).low=k.low:=by unfold dv.ask;rw [g6 ad];split<;>rfl
      have bU:(k.ask x).high=k.high:=by unfold dv.ask;rw [g6 ad];split<;>rfl
      have e1:(k.ask x).e6=k.e6:=by unfold dv.ask;rw [g6 ad];split<;>rfl
      rw [b2,bU,e1] at a1;cases an:(decide (x.1.cls>1) != x.2) with
      | true=>simp
      | false=>rw [ag6,f0 ba,a1]
    · have e:vP x=false:=by unfold vP;rw [ab' ad,f9]
      rw [f0 ad,e,ag6,← a1];unfold dv.ask;rw [f0 ad];split
      · split<;>rfl
      · split<;>rfl
theorem J7:∀ (k:Nat) (n:Int) (l:List Int),BK k n l=ml k n l
 | 0,_,_=>rfl
 | k+1,n,l=>by rw [BK,ml,J7 k]
theorem QL:∀ (l:List ch) (k:dv) (c:Nat),(l.foldl dv.ask k).gb.testBit c=(k.gb.testBit c||l.any fun x=>decide (x.1.op=2)&&(!x.2&&decide (x.1.cls.toNat=c)))
  | [],k,c=>by simp
  | x::r,k,c=>by
    rw [ah7,QL r,aj8,← ar8];congr 1;unfold dv.ask;by_cases ad:x.1.op=2
    · rw [g6 ad,i7 ad,f5]
      cases x.2 with
      | true=>simp
      | false=>simp [am4,al7]
    · rw [f0 ad,ab' ad,f9,am3]
      repeat' split
      all_goals rfl
theorem QM:∀ (l:List ch) (k:dv) (c:Nat),(l.foldl dv.ask k).no.testBit c=(k.no.testBit c||l.any fun x=>decide (x.1.op=2)&&(x.2&&decide (x.1.cls.toNat=c)))
  | [],k,c=>by simp
  | x::r,k,c=>by
    rw [ah7,QM r,aj8,← ar8];congr 1;unfold dv.ask;by_cases ad:x.1.op=2
    · rw [g6 ad,i7 ad,f5]
      cases x.2 with
      | false=>simp
      | true=>simp [am4,al7]
    · rw [f0 ad,ab' ad,f9,am3]
      repeat' split
      all_goals rfl
theorem QN:∀ (l:List ch) (k:dv),(l.foldl dv.ask k).whole=(k.whole||l.any fun x => !decide (x.1.op=2) && !x.2)
  | [],k=>by simp
  | x::r,k=>by
    rw [ah7,QN r,aj8,← ar8];congr 1;unfold dv.ask;by_cases ad:x.1.op=2
    · rw [g6 ad,i7 ad]
      split<;>simp
    · rw [f0 ad,ab' ad]
      cases ab:x.2<;>by_cases al:x.1.op=3<;>simp [al]
theorem QO {p q b:ch→Bool}:∀ (l:List ch),(∀ x∈l,b x=(p x||q x))→l.any b = !(l.all (fun x => !p x)&&l.all (fun x => !q x))
  | [],_=>rfl
  | x::r,h=>by
    rw [aj8,ak6,ak6,QO r (fun y ay=>h y (i0 _ ay)),h x i6];cases p x<;>cases q x<;>simp
section
variable {w:bz} (hw:gz w) {arg:Int} {path:List Int} (aF:path.length≤2) {L:List ch} (bM:ua w L)
include aF bM
theorem FB:((ev L) (bx arg path)).core=(ft L arg path).foldl dv.ask je:=QG aF L xr bM
theorem vQ (c:Nat):((ev L) (bx arg path)).gb.testBit c=(ft L arg path).any fun x=>decide (x.1.op=2)&&(!x.2&&decide (x.1.cls.toNat=c)):=by
 have h:((ev L) (bx arg path)).gb=((ft L arg path).foldl dv.ask je).gb:=by rw [← FB aF bM];rfl
 rw [h,QL];simp [je]
theorem FC (c:Nat):((ev L) (bx arg path)).no.testBit c=(ft L arg path).any fun x=>decide (x.1.op=2)&&(x.2&&decide (x.1.cls.toNat=c)):=by
 have h:((ev L) (bx arg path)).no=((ft L arg path).foldl dv.ask je).no:=by rw [← FB aF bM];rfl
 rw [h,QM];simp [je]
theorem QP:((ev L) (bx arg path)).whole=(ft L arg path).any fun x => !decide (x.1.op=2) && !x.2:=by
 have h:((ev L) (bx arg path)).whole=((ft L arg path).foldl dv.ask je).whole:=by rw [← FB aF bM];rfl
 rw [h,QN];simp [je]
omit aF in
theorem s7 {x:ch} (ab:x∈ft L arg path) (ad:x.1.op=2):0≤x.1.cls∧x.1.cls<3+(w.ps.length:Int):=by
 unfold ft at ab;obtain ⟨az,aC⟩:=bM x (ah6.1 ab).1;simp only [ik,aC,ag7,g6 ad,f8,i8] at az;have:=az.2.2.2.2.2.2.2;omega
theorem QQ {c:Nat} (h:((ev L) (bx arg path)).gb.testBit c=true):c<3+w.ps.length:=by
 rw [vQ aF bM] at h;obtain ⟨x,ab,h⟩:=ag4.1 h;simp only [f8,i8] at h;have:=s7 bM ab h.1;omega
include hw
theorem QR {c:Nat} (aB:c<3):vr (ev L) arg path c=((ft L arg path).all (fun x => !(decide (x.1.op=2)&&(!x.2 && !(decide (x.1.cls=0)||decide (x.1.cls=c)))))&&((ft L arg path).all (fun x => !(decide (x.1.op=2)&&(x.2&&(decide (x.1.cls=0)||decide (x.1.cls=c)))))&&sM w.owner.length L arg path)):=by
 have tV:=hw.ja;unfold vr;rw [abI aF bM];have an:∀ i,(1|||2^c:Nat).testBit i=(decide (i=0)||decide (i=c)):=fun i=>by
  rw [am4,AZ,al7];congr 1;rw [af7,i8,i8];omega
 congr 1
 ·rw [af7,i8,ah2]
  constructor
  ·intro h x ab
   cases cY:(decide (x.1.op=2)&&(!x.2 && !(decide (x.1.cls=0)||decide (x.1.cls=c)))) with
   | false=>rfl
   | true=>
    exfalso;simp only [f8,i8,ai5,al1,decide_eq_false_iff_not] at cY;have cy:=s7 bM ab cY.1;have hm:((ev L) (bx arg path)).gb.testBit x.1.cls.toNat=true:=by
     rw [vQ aF bM,ag4];exact ⟨x,ab,by simp [cY.1,cY.2.1]⟩
    have:=ae7 (fun n=>n.testBit x.1.cls.toNat) h;simp only [k9,al9,ar9,hm,an,aq9,f5] at this;rw [show (18446744073709551615:Nat)=2^64-1 by decide,ai3,i7 (by omega:x.1.cls.toNat<64),ab' af,ab' af] at this;cases this
  ·intro h
   apply an7;intro i;rw [aq9];cases hm:((ev L) (bx arg path)).gb.testBit i with
   | false=>unfold k9;rw [al9,hm,f9]
   | true=>
    have aR:=QQ aF bM hm;rw [vQ aF bM,ag4] at hm;obtain ⟨x,ab,hm⟩:=hm;simp only [f8,i8,ai5] at hm;have:=h x ab;have cy:=s7 bM ab hm.1;simp only [hm.1,hm.2.1,decide_true,aj3,f5,aA8,aj1,i8] at this;unfold k9;rw [al9,ar9,an,show (18446744073709551615:Nat)=2^64-1 by decide,ai3,i7 (by omega:i<64)];rcases (by omega:i=0∨i=c) with rfl|rfl
    ·simp
    ·simp
 congr 1;rw [af7,i8,ah2];constructor
 ·intro h x ab
  cases cY:(decide (x.1.op=2)&&(x.2&&(decide (x.1.cls=0)||decide (x.1.cls=c)))) with
  | false=>rfl
  | true=>
   exfalso;simp only [f8,i8,aj1] at cY;have cy:=s7 bM ab cY.1;have hm:((ev L) (bx arg path)).no.testBit x.1.cls.toNat=true:=by
    rw [FC aF bM,ag4];exact ⟨x,ab,by simp [cY.1,cY.2.1]⟩
   have:=ae7 (fun n=>n.testBit x.1.cls.toNat) h;simp only [al9,hm,an,aq9,f5,al1,decide_eq_false_iff_not] at this;omega
 ·intro h
  apply an7;intro i;rw [aq9,al9,an];cases hm:((ev L) (bx arg path)).no.testBit i with
  | false=>rfl
  | true=>
   rw [FC aF bM,ag4] at hm;obtain ⟨x,ab,hm⟩:=hm;simp only [f8,i8] at hm;have:=h x ab;have cy:=s7 bM ab hm.1;simp only [hm.1,hm.2.1,decide_true,f5,ai5,al1,decide_eq_false_iff_not] at this;simp only [f5,al1,decide_eq_false_iff_not];omega
theorem abJ:vn w.owner.length L arg path=xH (ev L) arg path:=by
 have aR:=QK (ft L arg path) je;have aB:=FB (arg:=arg) aF bM;have U:((ev L) (bx arg path)).low=((ft L arg path).foldl dv.ask je).low:=by rw [← aB];rfl
 have ad:((ev L) (bx arg path)).high=((ft L arg path).foldl dv.ask je).high:=by rw [← aB];rfl
 have al:((ev L) (bx arg path)).e6=((ft L arg path).foldl dv.ask je).e6:=by rw [← aB];rfl
 unfold vn xH xG;rw [QR hw aF bM af,U,ad,al];rw [show ((-1000000000:Int),(1000000000:Int),([]:List Int))=(je.low,je.high,je.e6) from rfl,aR];have an:(ft L arg path).any vP = !((ft L arg path).all (fun x => !(decide (x.1.op=2)&&(!x.2 && !(decide (x.1.cls=0)||decide (x.1.cls=(1:Nat))))))&&(ft L arg path).all (fun x => !(decide (x.1.op=2)&&(x.2&&(decide (x.1.cls=0)||decide (x.1.cls=(1:Nat))))))):=by
  have e:∀ x∈ft L arg path,vP x=(decide (x.1.op=2)&&(!x.2 && !(decide (x.1.cls=0)||decide (x.1.cls=(1:Nat))))||decide (x.1.op=2)&&(x.2&&(decide (x.1.cls=0)||decide (x.1.cls=(1:Nat))))):=by
   intro x ab;unfold vP;by_cases ad:x.1.op=2
   ·have:=s7 bM ab ad
    rw [i7 ad];have b2:decide (x.1.cls>1) = !(decide (x.1.cls=0)||decide (x.1.cls=(1:Nat))):=by
     rw [af7];simp;omega
    rw [b2];cases x.2<;>simp
   ·rw [ab' ad];rfl
  exact QO _ e
 rw [an];cases (ft L arg path).all (fun x => !(decide (x.1.op=2)&&(!x.2 && !(decide (x.1.cls=0)||decide (x.1.cls=(1:Nat)))))) with
 | false=>simp
 | true=>
  cases (ft L arg path).all (fun x => !(decide (x.1.op=2)&&(x.2&&(decide (x.1.cls=0)||decide (x.1.cls=(1:Nat)))))) with
  | false=>simp
  | true=>simp only [Bool.and_self,ak2,af8,ah',f5,J7]
theorem abK:ub w.owner.length L arg path=xF (ev L) arg path:=by
 unfold ub xF;rw [QR hw aF bM af,QP aF bM,← az1,← az1];congr 1;rw [af7];simp only [f8,ah2,ai5,ak'];have e:∀ x∈ft L arg path,(qI x=false↔(¬(decide (x.1.op=2)=false∧x.2=false)∧(decide (x.1.op=2)&&(!x.2 && !(decide (x.1.cls=0)||decide (x.1.cls=(2:Nat)))))=false)∧(decide (x.1.op=2)&&(x.2&&(decide (x.1.cls=0)||decide (x.1.cls=(2:Nat)))))=false):=by
  intro x ab;unfold qI;by_cases ad:x.1.op=2<;>cases x.2<;>simp [ad]<;>omega
 constructor
 ·intro h
  exact ⟨⟨fun x ab=>((e x ab).1 (h x ab)).1.1,fun x ab=>((e x ab).1 (h x ab)).1.2⟩,fun x ab=>((e x ab).1 (h x ab)).2⟩
 ·rintro ⟨⟨U,ad⟩,al⟩ x ab
  exact (e x ab).2 ⟨⟨U x ab,ad x ab⟩,al x ab⟩
end
theorem J8 {l lH:List Int} {f g:Int→Bool} (h:∀ s,s∈l↔s∈lH) (a7:∀ s∈l,f s=g s):l.any f=lH.any g:=by
 rw [af7,ag4,ag4];constructor
 ·rintro ⟨s,ar,e⟩;exact ⟨s,(h s).1 ar,by rw [← a7 s ar];exact e⟩
 ·rintro ⟨s,ar,e⟩;exact ⟨s,(h s).2 ar,by rw [a7 s ((h s).2 ar)];exact e⟩
def oq (x:ch):Bool := !decide (x.1.op=2)||(decide (x.1.cls=1)||decide (x.1.cls=2))
theorem J9 (a:Nat→Bool) (c k:Nat) (b:Bool):((if k=c then true else a k)||b)=(a k||(decide (c=k)||b)):=by
 by_cases h:k=c
 ·rw [g6 h,i7 h.symm];simp
 ·rw [f0 h,ab' (Ne.symm h)];simp
theorem FD:∀ (l:List ch) (a:(Nat→Bool)×(Nat→Bool)),qJ l a=if l.any (fun x=>oq x && !x.2) then none else
    some (fun k=>a.1 k||l.any (fun x => !oq x&&(!x.2&&decide (x.1.cls.toNat=k))),fun k=>a.2 k||l.any (fun x => !oq x&&(x.2&&decide (x.1.cls.toNat=k))))
  | [],a=>by rw [qJ];simp
  | x::r,a=>by
    rw [qJ,aj8];simp only [aj8];by_cases h:x.1.op≠2∨x.1.cls=1∨x.1.cls=2
    · have e:oq x=true:=by unfold oq;simpa [or_assoc] using h
      rw [g6 h,e];cases x.2 with
      | true=>rw [g6 C,FD r a];simp only [ak2,ak8,ag6,f9]
      | false=>simp
    · have e:oq x=false:=by
        rw [ah4];intro e;apply h;unfold oq at e;simpa [or_assoc] using e
      rw [f0 h,e];cases x.2 with
      | true=>
        rw [g6 C,FD r _];simp only [J9,ak2,aj3,ak8,ag6,f9,f5]
      | false=>
        rw [f0 ba,FD r _];simp only [J9,ak2,aj3,ak8,ag6,f9,f5]
theorem QS (w:bz) (L:List ch) (cn:List Int→Bool) (arg:Int) (path:List Int):∀ (l:List Int) (a:(Nat→Bool)×(Nat→Bool)),sN w L cn arg path l a=if l.any (fun s => !lo L arg (path++[s]) && !cn (path++[s])) then none else
    some (fun k=>a.1 k||l.any (fun s => !lo L arg (path++[s])&&decide (jW w s=k)),fun k=>a.2 k||l.any (fun s => !cn (path++[s])&&decide (jW w s=k)))
  | [],a=>by rw [sN];simp
  | s::r,a=>by
    rw [sN,aj8];simp only [aj8];cases aB:(!lo L arg (path++[s]) && !cn (path++[s])) with
    | true=>simp
    | false=>
      rw [f0 ba,ag6,QS w L cn arg path r _];cases lo L arg (path++[s])<;>cases cn (path++[s])<;>simp only [J9,jW,ak2,aj3,ak8,ag6,f9,f5,ag7,ah',af8]<;>rfl
theorem J' {w:bz} {σ:d'} {cn:List Int→Bool} {arg:Int} {path:List Int}:∀ {l:List Int} {m n:Nat},l.any (fun s=>(σ (bx arg (path++[s]))).gC && !cn (path++[s]))=true→pY w σ cn arg path l m n=none
  | s::r,m,n,h=>by
    rw [pY];rw [aj8] at h;cases aB:((σ (bx arg (path++[s]))).gC && !cn (path++[s])) with
    | true=>rfl
    | false=>
      rw [aB,ag6] at h;rw [f0 ba];split
      · exact J' h
      · split<;>exact J' h
theorem FE {w:bz} {σ:d'} {cn:List Int→Bool} {arg:Int} {path:List Int}:∀ {l:List Int} {m n:Nat},l.any (fun s=>(σ (bx arg (path++[s]))).gC && !cn (path++[s]))=false →
    ∃ iw n',pY w σ cn arg path l m n=some (iw,n')∧(∀ k,iw.testBit k=(m.testBit k||l.any fun s=>(σ (bx arg (path++[s]))).gC&&decide (jW w s=k)))∧∀ k,n'.testBit k=(n.testBit k||l.any fun s => !cn (path++[s])&&decide (jW w s=k))
  | [],m,n,_=>⟨m,n,rfl,fun k=>by simp,fun k=>by simp⟩
  | s::r,m,n,h=>by
    rw [aj8,al1] at h;obtain ⟨U,ad⟩:=h;rw [pY,f0 (by rw [U];simp)];simp only [aj8];by_cases az:(σ (bx arg (path++[s]))).gC=true
    · rw [az,f5,aA9] at U
      obtain ⟨iw,n',e,hm,gi⟩:=FE (w:=w) (σ:=σ) (cn:=cn) (arg:=arg) (path:=path) (l:=r) (m:=m|||2^jW w s) (n:=n) ad;refine ⟨iw,n',by rw [g6 az];exact e,fun k=>?_,fun k=>?_⟩
      · rw [hm,az,am4,al7,f5,ar8]
      · rw [gi,U];simp
    · rw [f0 az]
      have az:(σ (bx arg (path++[s]))).gC=false:=by simpa using az
      by_cases aB:cn (path++[s])=true
      · obtain ⟨iw,n',e,hm,gi⟩:=FE (w:=w) (σ:=σ) (cn:=cn) (arg:=arg) (path:=path) (l:=r) (m:=m) (n:=n) ad
        refine ⟨iw,n',by rw [g6 aB];exact e,fun k=>?_,fun k=>?_⟩
        · rw [hm,az];simp
        · rw [gi,aB];simp
      · obtain ⟨iw,n',e,hm,gi⟩:=FE (w:=w) (σ:=σ) (cn:=cn) (arg:=arg) (path:=path) (l:=r) (m:=m) (n:=n|||2^jW w s) ad
        have ns:cn (path++[s])=false:=by simpa using aB
        refine ⟨iw,n',by rw [f0 aB];exact e,fun k=>?_,fun k=>?_⟩
        · rw [hm,az];simp
        · rw [gi,ns,am4,al7,aj3,f5,ar8]
theorem QT {w:bz} (hw:gz w) (m:Nat) (k:Nat):∀ i,i≤w.ps.length→(((ag3 i).foldl (uc w) m).testBit k=true↔m.testBit k=true∨∃ j,j<i∧m.testBit (3+j)=true∧((eY w.ps).getD (3+j) 0).testBit k=true)
  | 0,_=>by simp
  | i+1,aR=>by
    have a1:=fun k=>QT hw m k i af
    rw [aq2,ao0,ah7,au4];have an:((ag3 i).foldl (uc w) m).testBit (3+i)=m.testBit (3+i):=by
      rw [af7,a1 (3+i)];constructor
      · rintro (h|⟨j,aL,-,h⟩)
        · exact h
        · have:=yQ hw (3+j+1) (3+j) (3+i) af af h;omega
      · exact .inl
    have e:∀ M,uc w M i=if M.testBit (3+i) then M|||(eY w.ps).getD (3+i) 0 else M:=fun M=>rfl
    rw [e,an];by_cases al:m.testBit (3+i)=true
    · rw [g6 al,am4,aj1,a1]
      constructor
      · rintro ((h|⟨j,aL,h,e3⟩)|h)
        · exact .inl h
        · exact .inr ⟨j,by omega,h,e3⟩
        · exact .inr ⟨i,by omega,al,h⟩
      · rintro (h|⟨j,aL,h,e3⟩)
        · exact .inl (.inl h)
        · rcases ah5.1 aL with aL|rfl
          · exact .inl (.inr ⟨j,aL,h,e3⟩)
          · exact .inr e3
    · rw [f0 al,a1]
      constructor
      · rintro (h|⟨j,aL,h,e3⟩)
        · exact .inl h
        · exact .inr ⟨j,by omega,h,e3⟩
      · rintro (h|⟨j,aL,h,e3⟩)
        · exact .inl h
        · rcases ah5.1 aL with aL|rfl
          · exact .inr ⟨j,aL,h,e3⟩
          · exact absurd h al
theorem abL {w:bz} (hw:gz w) {f a2:Nat→Bool} {m n:Nat} (a7:∀ k,1≤k→f k=m.testBit k) (abM:f 0=false) (yb:m.testBit 1=false∧m.testBit 2=false) (hm:∀ k,m.testBit k=true→k<3+w.ps.length) (a6:∀ k,3≤k→a2 k=n.testBit k) :
  ((ag3 (3+w.ps.length)).all fun k => !(hs w.ps w.ps.length f k&&a2 k))=decide (k9 (rS w m) 1 &&& n=0):=by
 have tV:=hw.ja;have ss:∀ k,((rS w m).testBit k=true↔m.testBit k=true∨∃ j,j<w.ps.length∧m.testBit (3+j)=true∧((eY w.ps).getD (3+j) 0).testBit k=true):=fun k=>QT hw m k w.ps.length (g8 _)
 have cy:∀ k,3≤k→hs w.ps w.ps.length f k=(rS w m).testBit k:=fun k aE=>by
  rw [af7,Hd hw _ _ _ aE (g8 _),ss,a7 k af];constructor <;>
  ·rintro (h|⟨j,aL,h,e3⟩)
   ·exact .inl h
   ·exact .inr ⟨j,aL,by first|rw [← a7 _ af];exact h|rw [a7 _ af];exact h,e3⟩
 have abN:∀ k,1≤k→k<3→(rS w m).testBit k=false:=fun k U al=>by
  rw [ah4];intro h;rcases (ss k).1 h with h|⟨j,aL,-,h⟩
  ·rcases (by omega:k=1∨k=2) with rfl|rfl
   ·rw [yb.1] at h;cases h
   ·rw [yb.2] at h;cases h
  ·have:=yQ hw (3+j+1) (3+j) k af af h
   omega
 rw [af7,ah2,i8];constructor
 ·intro h
  apply an7;intro i;unfold k9;rw [aq9,al9,al9,ar9,AZ];by_cases bq:i=0
  ·subst bq
   rw [show (18446744073709551615:Nat).testBit 0=true from rfl];simp
  by_cases al:i<3
  ·rw [abN i af al];rfl
  ·cases hu:(rS w m).testBit i with
   | false=>rfl
   | true=>
    have aR:i<3+w.ps.length:=by
     rcases (ss i).1 hu with h|⟨j,aL,-,h⟩
     ·exact hm i h
     ·have:=yQ hw (3+j+1) (3+j) i af af h
      omega
    have:=h i (ak5.2 aR);rw [cy i af,hu,f5,a6 i af,ai5] at this;rw [this,ak8]
 ·intro h k aE
  have aE:=ak5.1 aE;by_cases al:k<3
  ·rw [Hc hw _ _ _ al (g8 _)]
   rcases (by omega:k=0∨k=1∨k=2) with rfl|rfl|rfl
   ·rw [abM];rfl
   ·rw [a7 1 af,yb.1];rfl
   ·rw [a7 2 af,yb.2];rfl
  ·rw [cy k af,a6 k af]
   have:=ae7 (fun n=>n.testBit k) h;unfold k9 at this;simp only [aq9,al9,ar9,AZ] at this;rw [show (18446744073709551615:Nat)=2^64-1 by decide,ai3,i7 (by omega:k<64),ab' (by omega:¬ k=0)] at this;cases hu:(rS w m).testBit k with
   | false=>rfl
   | true=>rw [hu] at this;simpa using this
section
variable {w:bz} (hw:gz w) {arg:Int} {path:List Int} (aF:path.length≤2) {L:List ch} (bM:ua w L)
include aF bM hw
omit aF in
theorem Ka {s:Int} (h:nA L arg path s=true):3≤jW w s∧jW w s<3+w.ps.length:=by
 have U:=ya bM h;have au:s.toNat<w.owner.length:=by omega
 have:=hw.own _ (an6 au);unfold jW;rw [d7,f7 au,af9];omega
theorem abO {eu zV:List Int→Bool} (aB:∀ s,nA L arg path s=true→eu (path++[s])=zV (path++[s])):xA w L eu arg path=(xI w (ev L) zV arg path).2:=by
 have fH:∀ s,s∈jV w.owner.length L arg path↔s∈((ev L) (bx arg path)).bp:=fun s=>FA aF bM
 have uu:∀ s∈jV w.owner.length L arg path,nA L arg path s=true:=fun s ar=>(CF aF bM s).1 ((fH s).1 ar)
 have e7:∀ s∈jV w.owner.length L arg path,(!lo L arg (path++[s]))=((ev L) (bx arg (path++[s]))).gC:=fun s ar=>(QJ (ya bM (uu s ar)).2.2 bM).symm
 unfold xA xI;rw [FD,QP aF bM,vQ aF bM,vQ aF bM,FC aF bM];by_cases an:(ft L arg path).any (fun x=>oq x && !x.2)=true
 ·rw [g6 an,g6]
  obtain ⟨x,ab,h⟩:=ag4.1 an;simp only [aj1,ag4];unfold oq at h;simp only [f8,aj1,ai5,i8,decide_eq_false_iff_not] at h;obtain ⟨U,ad⟩:=h;rcases U with U|U|U
  ·exact .inl ⟨x,ab,by simp [U,ad]⟩
  ·by_cases al:x.1.op=2
   ·exact .inr (.inl ⟨x,ab,by simp [U,ad,al]⟩)
   ·exact .inl ⟨x,ab,by simp [al,ad]⟩
  ·by_cases al:x.1.op=2
   ·exact .inr (.inr (.inl ⟨x,ab,by simp [U,ad,al]⟩))
   ·exact .inl ⟨x,ab,by simp [al,ad]⟩
 rw [f0 an];have dO:∀ x∈ft L arg path,x.2=false→x.1.op=2∧x.1.cls≠1∧x.1.cls≠2:=by
  intro x ab ad;have:=ak'.1 (ah4.2 an) x ab;unfold oq at this;rw [ad] at this;simpa using this
 have b2:(ft L arg path).any (fun x => !decide (x.1.op=2) && !x.2)=false:=by
  rw [ak'];intro x ab h;simp only [f8,ai5,decide_eq_false_iff_not] at h;exact h.1 (dO x ab h.2).1
 have bU:∀ c:Nat,c=1∨c=2→(ft L arg path).any (fun x=>decide (x.1.op=2)&&(!x.2&&decide (x.1.cls.toNat=c)))=false:=by
  intro c sK;rw [ak'];intro x ab h;simp only [f8,ai5,i8] at h;have:=dO x ab h.2.1;have:=s7 bM ab h.1;omega
 rw [b2,bU 1 (.inl C),bU 2 (.inr C),ag6,ag6,ag6];simp only;rw [QS];have p3:(jV w.owner.length L arg path).any (fun s => !lo L arg (path++[s]) && !eu (path++[s]))=((ev L) (bx arg path)).bp.any (fun s=>((ev L) (bx arg (path++[s]))).gC && !zV (path++[s])):=
  J8 fH fun s ar=>by rw [e7 s ar,aB s (uu s ar)]
 rw [p3];have abP:(ft L arg path).any (fun x => !oq x&&(x.2&&decide (x.1.cls.toNat=0)))=(ft L arg path).any (fun x=>decide (x.1.op=2)&&(x.2&&decide (x.1.cls.toNat=0))):=by
  rw [af7,ag4,ag4];constructor <;>
  ·rintro ⟨x,ab,h⟩
   refine ⟨x,ab,?_⟩;unfold oq at *;by_cases ad:x.1.op=2
   ·simp only [ad,decide_true,f5,f8,i8,ak2,ag6,ai5,al1,decide_eq_false_iff_not] at h ⊢
    have:=s7 bM ab ad
    first|exact h.2|(obtain ⟨bf,bE⟩:=h;exact ⟨⟨by omega,by omega⟩,bf,bE⟩)
   ·simp [ad] at h
 have abQ:(jV w.owner.length L arg path).any (fun s => !eu (path++[s])&&decide (jW w s=0))=false:=by
  rw [ak'];intro s ar h;have:=Ka hw bM (uu s ar);simp only [f8,i8] at h;omega
 by_cases a6:((ev L) (bx arg path)).bp.any (fun s=>((ev L) (bx arg (path++[s]))).gC && !zV (path++[s]))=true
 ·rw [g6 a6,J' a6]
  have:∀ z:Bool,false=(if z=true then (0,false) else ((0,false):Nat×Bool)).2:=fun z=>by cases z<;>rfl
  exact this _
 rw [f0 a6];obtain ⟨iw,n',e,hm,az⟩:=FE (w:=w) (σ:=ev L) (cn:=zV) (arg:=arg) (path:=path) (l:=((ev L) (bx arg path)).bp) (m:=((ev L) (bx arg path)).gb) (n:=((ev L) (bx arg path)).no) (by simpa using a6);rw [e];simp only [ag6,abQ,abP,am3];cases bG:(ft L arg path).any (fun x=>decide (x.1.op=2)&&(x.2&&decide (x.1.cls.toNat=0))) with
 | true=>simp
 | false=>
  simp only [aj3,f5,af8,ah'];have jR:∀ k,(jV w.owner.length L arg path).any (fun s => !lo L arg (path++[s])&&decide (jW w s=k))=((ev L) (bx arg path)).bp.any (fun s=>((ev L) (bx arg (path++[s]))).gC&&decide (jW w s=k)):=fun k=>J8 fH fun s ar=>by rw [e7 s ar]
  have jk:∀ k,(jV w.owner.length L arg path).any (fun s => !eu (path++[s])&&decide (jW w s=k))=((ev L) (bx arg path)).bp.any (fun s => !zV (path++[s])&&decide (jW w s=k)):=fun k=>J8 fH fun s ar=>by rw [aB s (uu s ar)]
  have QU:∀ k,k<3→((ev L) (bx arg path)).bp.any (fun s=>((ev L) (bx arg (path++[s]))).gC&&decide (jW w s=k))=false:=fun k aE=>by
   rw [ak'];intro s ar h;have:=Ka hw bM (uu s ((fH s).2 ar));simp only [f8,i8] at h;omega
  have ab:∀ k,1≤k→¬ (k=1∨k=2)→∀ b:ch→Bool,(ft L arg path).any (fun x => !oq x&&(b x&&decide (x.1.cls.toNat=k)))=(ft L arg path).any (fun x=>decide (x.1.op=2)&&(b x&&decide (x.1.cls.toNat=k))):=fun k U ad b=>by
   rw [af7,ag4,ag4];constructor <;>
   ·rintro ⟨x,ab,h⟩
    refine ⟨x,ab,?_⟩;unfold oq at *;by_cases al:x.1.op=2
    ·simp only [al,decide_true,f5,f8,i8,ak2,ag6,ai5,al1,decide_eq_false_iff_not] at h ⊢
     have:=s7 bM ab al
     first|exact h.2|(obtain ⟨bf,bE⟩:=h;exact ⟨⟨by omega,by omega⟩,bf,bE⟩)
    ·simp [al] at h
  refine abL hw ?_ (g6 C) ⟨?_,?_⟩ ?_ ?_
  ·intro k aE
   rw [f0 af,hm,jR,vQ aF bM];by_cases yb:k=1∨k=2
   ·rw [bU k yb]
    congr 1;rw [ak'];intro x ab h;unfold oq at h;simp only [f8,ai5,al1,decide_eq_false_iff_not,i8,aA9] at h;have:=s7 bM ab h.1.1;omega
   ·rw [ab k aE yb (fun x => !x.2)]
  ·rw [hm,vQ aF bM,bU 1 (.inl C),QU 1 af];rfl
  ·rw [hm,vQ aF bM,bU 2 (.inr C),QU 2 af];rfl
  ·intro k aE
   rw [hm,aj1] at aE;rcases aE with aE|aE
   ·exact QQ aF bM aE
   ·obtain ⟨s,ar,aE⟩:=ag4.1 aE
    have:=Ka hw bM (uu s ((fH s).2 ar));simp only [f8,i8] at aE;omega
  ·intro k aE
   rw [az,jk,FC aF bM,ab k af af (fun x=>x.2)]
omit aF in
theorem QV:∀ (k:Nat) (path:List Int),path.length≤2→oY w L arg k path=sQ w (ev L) arg k path
  | 0,_,_=>rfl
  | k+1,path,aF=>by
    rw [oY,sQ,abJ hw aF bM,abK hw aF bM,abO hw aF bM (fun s ar=>QV k _ (ya bM ar).2.2)]
omit aF in
theorem QW:BL w L=nB w (ev L):=by
 unfold BL nB;congr 1;funext a;exact QV hw bM 3 [] ba
end
theorem abR (w:bz) (hw:w.owner.length≤40) (L:List ch) (arg:Int) (path:List Int) (bM:oo w L) (aF:path.length≤2):aT d0 177 [kW w L arg path] (.bool (ub w.owner.length L arg path)):=by
 have an:=bD;have U:=J5 w L arg path bM af;have ad:=QB w hw L arg path bM aF;have eR:=bM.on arg path;have aU:ub w.owner.length L arg path=((ft L arg path).all (fun x => !qI x)&&sM w.owner.length L arg path):=rfl;refine aT.bh ah Tryz.func177 C C fun s I=>?_
 generalize ft L arg path=M at U eR aU;have x7:=eR.1;rw [aU];unfold kW oZ df bd at *;refine b' ?_;refine ae.b5 [1,9,10] C I (σ:=Nat) (fun j=>[(11,.int .i64 (j:Int))]) (fun _=>[]) (fun j=>j≤M.length∧(M.all fun x => !qI x)=(M.drop j).all fun x => !qI x) (fun j=>M.length-j) 0 ⟨g7 _,rfl⟩ (cl C) aX ?_;rintro j ⟨aL,aq⟩ I
 try simp only at aL aq I ⊢
 refine b7 ?_;refine ae.cond C (fun au=>?_) (fun aV=>?_);rotate_left
 ·have aV:j=M.length:=by simp at aV;omega
  rw [eD af,ao3] at aq;rw [aq,f5];refine c2 ?_;exact bB I
 have au:j<M.length:=by simpa using au
 obtain ⟨x,ab,bL⟩:=b8 (f:=fun x:ch=>(iB x).bK) au;have fm:=eR.at (d5 ab);have dn:=zf x fm.1;have bL:(M.map fun x=>(iB x).bK)[j]? = some (iB x).bK:=bL;rw [ak.b6] at bL;simp only [ak.b6] at dn;rw [drop_cons ab,ak6] at aq;have jn:qI x=((decide (x.1.op=2)&&(decide (x.1.cls=0)||decide (x.1.cls=2)))==x.2):=rfl;unfold ak.cells at bL dn;cases az:x.2 with
 | true=>
  rw [az] at dn jn
  repeat' (first|(with_reducible first|apply ae.seq|apply b0|apply fY|apply fh|apply hC|apply ae.ret|apply ae.skip|apply ae.block)|refine c4 C ?_|refine ae.cF ?_|refine aa.nil ?_|refine ae.fM C ?_|refine ae.gT C ?_|refine cv C ?_|refine aa.skip C C C ?_|refine aa.idx ah _ C C C C C C C C C C C cx C ?_|refine aa.ey ah I C C C C C C nj b1 ?_|refine aa.cK ah I C C C C C C C C C nj b1 (fun I=>?_)|refine aa.eb ah I C C C C C C C (fun cH I=>?_)|refine aa.ec C C C C C cx ?_|(fail_if_success refine aa.same true C ?_);(fail_if_success refine aa.same false C ?_);refine aa.hh C C (fun h=>?_) (fun h=>?_)|refine ae.cond C (fun h=>?_) (fun h=>?_))
  all_goals first
   | exact Fin.cB I C (aQ.of_eq (ae7 ag.bool (by rw [aq,show qI x=true by clear I aq U ad;grind];rfl)))
   | exact bn.mk (j+1) I ⟨au,by rw [aq,show qI x=false by clear I aq U ad;grind];rfl⟩ cj aX qV
 | false=>
  rw [az] at dn jn
  repeat' (first|(with_reducible first|apply ae.seq|apply b0|apply fY|apply fh|apply hC|apply ae.ret|apply ae.skip|apply ae.block)|refine c4 C ?_|refine ae.cF ?_|refine aa.nil ?_|refine ae.fM C ?_|refine ae.gT C ?_|refine cv C ?_|refine aa.skip C C C ?_|refine aa.idx ah _ C C C C C C C C C C C cx C ?_|refine aa.ey ah I C C C C C C nj b1 ?_|refine aa.cK ah I C C C C C C C C C nj b1 (fun I=>?_)|refine aa.eb ah I C C C C C C C (fun cH I=>?_)|refine aa.ec C C C C C cx ?_|(fail_if_success refine aa.same true C ?_);(fail_if_success refine aa.same false C ?_);refine aa.hh C C (fun h=>?_) (fun h=>?_)|refine ae.cond C (fun h=>?_) (fun h=>?_))
  all_goals first
   | exact Fin.cB I C (aQ.of_eq (ae7 ag.bool (by rw [aq,show qI x=true by clear I aq U ad;grind];rfl)))
   | exact bn.mk (j+1) I ⟨au,by rw [aq,show qI x=false by clear I aq U ad;grind];rfl⟩ cj aX qV
theorem QX:∀ (f:Nat) (n:Int) (l:List Int),n≤ml f n l
  | 0,n,l=>ak9 _
  | f+1,n,l=>by
    rw [ml];split
    · have:=QX f (n+1) l;omega
    · exact ak9 _
def QY (b:Bool) (o:eC) (K:a'):Prop:=(∃ v,o = .ret (.cw [v,.bool b]))∧K=[]
theorem abS (w:bz) (hw:w.owner.length≤40) (L:List ch) (arg:Int) (path:List Int) (bM:oo w L) (aF:path.length≤2):bA d0 176 [kW w L arg path] [] (QY (vn w.owner.length L arg path)):=by
 have an:=bD;have U:=J5 w L arg path bM af;have ad:=QB w hw L arg path bM aF;have eR:=bM.on arg path;have aU:vn w.owner.length L arg path=match pX (ft L arg path) (-1000000000,1000000000,[]) with
  | none=>false
  | some a=>decide (BK (a.2.2.length+1) a.1 a.2.2≤a.2.1)&&sM w.owner.length L arg path:=rfl
 refine bA.bh ah Tryz.func176 C C fun s I=>?_
 generalize ft L arg path=M at U eR aU;have x7:=eR.1;unfold QY;generalize vn w.owner.length L arg path=res at aU ⊢;unfold kW oZ df bd at *;refine b' ?_;refine ae.h0 I 3 1 0 fun I=>?_
 refine ae.b5 [1,16,17] C I (σ:=Nat×Int×Int×List Int×bN) (fun q=>[(18,.int .i64 (q.1:Int)),(4,.int .i64 q.2.1),(5,.int .i64 q.2.2.1),(6,.aA 1 (q.2.2.2.1.map a8) q.2.2.2.2)]) (fun q=>[(q.2.2.2.2,.row 3 1 q.2.2.2.1.length)])
  (fun q=>q.1≤M.length∧pX M (-1000000000,1000000000,[])=pX (M.drop q.1) (q.2.1,q.2.2.1,q.2.2.2.1)∧q.2.2.2.1.length≤q.1∧(-1000000001≤q.2.1∧q.2.1≤1000000001) ∧ -1000000001≤q.2.2.1∧q.2.2.1≤1000000001) (fun q=>M.length-q.1) (0,-1000000000,1000000000,[],.nil) ⟨g7 _,rfl,g8 _,⟨by decide,by decide⟩,by decide,by decide⟩
  ⟨⟨_,rfl,aJ⟩,⟨_,rfl,aJ⟩,⟨_,rfl,aJ⟩,⟨_,rfl,aQ.nil gN⟩,trivial⟩ (aG.dB _) ?_
 rintro ⟨j,gF,aR,no,own⟩ ⟨aL,aq,nO,⟨lC,eT⟩,abT,abU⟩ I
 try simp only at aL aq nO lC eT abT abU I ⊢
 refine b7 ?_;refine ae.cond C (fun au=>?_) (fun aV=>?_)
 ·have au:j<M.length:=by simpa using au
  obtain ⟨x,ab,bL⟩:=b8 (f:=fun x:ch=>(iB x).bK) au;have fm:=eR.at (d5 ab);have dn:=zf x fm.1;have bL:(M.map fun x=>(iB x).bK)[j]? = some (iB x).bK:=bL;rw [ak.b6] at bL;simp only [ak.b6] at dn;rw [drop_cons ab,pX] at aq;have dm:t7 .i64 (x.1.n-1)=x.1.n-1:=dz af af;unfold ak.cells at bL dn;have b3:x.1.op=2∨x.1.op=3∨x.1.op=4:=by have:=fm.1;unfold ak.c5 at this;simp at this;omega
  rcases b3 with h|h|h
  ·rw [g6 h] at aq
   rw [h] at dn;cases FF:(decide (x.1.cls>1) != x.2) with
   | true=>
    rw [FF,g6 C] at aq;rw [aq] at aU;simp only at aU;rw [aU];refine et ?_;refine ae.cond C (fun _=>?_) (fun h=>absurd (FF.symm.trans h) ba);refine kp ?_;exact Fin.bs I C aJ .nil ⟨⟨_,rfl⟩,rfl⟩
   | false=>
    rw [FF,f0 ba] at aq;refine et ?_;refine ae.cond C (fun h=>absurd (FF.symm.trans h) ba) (fun _=>?_);refine gx ?_;exact bn.mk (j+1,gF,aR,no,own) I ⟨au,aq,by simp<;>omega,⟨by show -1000000001≤gF;omega,by show gF≤1000000001;omega⟩,by show -1000000001≤aR;omega,by show aR≤1000000001;omega⟩ Cr Cs qV
  ·rw [f0 af,g6 h] at aq
   rw [h] at dn;cases az:x.2 with
   | true=>
    rw [az] at dn;rw [az,g6 C] at aq;refine et ?_;exact bn.mk (j+1,(max gF x.1.n),aR,no,own) I ⟨au,aq,by simp<;>omega,⟨by show -1000000001≤(max gF x.1.n);omega,by show (max gF x.1.n)≤1000000001;omega⟩,by show -1000000001≤aR;omega,by show aR≤1000000001;omega⟩ Cr Cs qV
   | false=>
    rw [az] at dn;rw [az,f0 ba] at aq;refine et ?_;exact bn.mk (j+1,gF,(min aR (x.1.n-1)),no,own) I ⟨au,aq,by simp<;>omega,⟨by show -1000000001≤gF;omega,by show gF≤1000000001;omega⟩,by show -1000000001≤(min aR (x.1.n-1));omega,by show (min aR (x.1.n-1))≤1000000001;omega⟩ Cr Cs qV
  ·rw [f0 af,f0 af] at aq
   rw [h] at dn;cases az:x.2 with
   | true=>
    rw [az] at dn;rw [az,g6 C] at aq;refine et ?_;refine aa.fO ah I C C C C C C C di C C C C C C C C aW gY jS af (fun bR I=>?_);refine fj ?_;exact bn.mk (j+1,gF,aR,(no++[x.1.n]),(.own bR)) I ⟨au,aq,by simp<;>omega,⟨by show -1000000001≤gF;omega,by show gF≤1000000001;omega⟩,by show -1000000001≤aR;omega,by show aR≤1000000001;omega⟩ Cr Cs qV
   | false=>
    rw [az] at dn;rw [az,f0 ba] at aq;refine et ?_;exact bn.mk (j+1,(max gF x.1.n),(min aR x.1.n),no,own) I ⟨au,aq,by simp<;>omega,⟨by show -1000000001≤(max gF x.1.n);omega,by show (max gF x.1.n)≤1000000001;omega⟩,by show -1000000001≤(min aR x.1.n);omega,by show (min aR x.1.n)≤1000000001;omega⟩ Cr Cs qV
 have aV:j=M.length:=by simp at aV;omega
 rw [eD af,pX] at aq;rw [aq] at aU;simp only [J7] at aU;refine bl ?_;refine ae.b5 [1,5,6] C I (σ:=Int) (fun n=>[(11,.int .i64 n)]) (fun _=>[(own,.row 3 1 no.length)]) (fun n=>gF≤n∧n≤1000000002∧ml (no.length+1) gF no=ml (no.length+1) n no) (fun n=>(1000000002-n).toNat) gF ⟨ak9 _,by omega,rfl⟩ (cl C) (aG.dB _) ?_;rintro n ⟨tx,zr,gG⟩ I
 try simp only at tx zr gG I ⊢
 refine b7 ?_;refine ae.cond C (fun hle=>?_) (fun m2=>?_);rotate_left
 ·have m2:aR<n:=by simp at m2;omega
  have:=QX (no.length+1) n no;rw [ab' (by rw [gG];omega),f9] at aU;rw [aU];refine ez ?_;exact Fin.bs I C aJ .nil ⟨⟨_,rfl⟩,rfl⟩
 have hle:n≤aR:=by simpa using hle
 refine kq ?_;refine ae.b5 [1,5,6,11,78,79] C I (σ:=Nat) (fun k=>[(80,.int .i64 (k:Int)),(12,.bool (!(no.take k).contains n))]) (fun _=>[(own,.row 3 1 no.length)]) (fun k=>k≤no.length) (fun k=>no.length-k) 0 (g7 _) (cl C) (aG.all _) ?_;rintro k aE I
 try simp only at aE I ⊢
 refine b7 ?_;refine ae.cond C (fun cI=>?_) (fun dV=>?_)
 ·have cI:k<no.length:=by simpa using cI
  obtain ⟨y,ay,c8⟩:=b8 (f:=a8) cI;have FG:=HY ay n;unfold a8 at c8;cases aB:(no.take k).contains n with
  | true=>
   rw [aB,ak3] at FG;refine bl ?_;exact bn.mk (k+1) I cI (by repeat (first|exact trivial|refine ⟨⟨_,rfl,aJ⟩,?_⟩|refine ⟨⟨_,rfl,aQ.of_eq (by (first|rw [h7 af]|rw [FG];rfl))⟩,?_⟩)) (aG.all _) (by show no.length-(k+1)<no.length-k;omega)
  | false=>
   rw [aB,ag6] at FG;have e:(y != n) = !(n==y):=by
    by_cases h:y=n
    ·subst h;simp
    ·rw [beq_eq_false_iff_ne.2 (Ne.symm h)];simpa using h
   refine bl ?_;exact bn.mk (k+1) I cI (by repeat (first|exact trivial|refine ⟨⟨_,rfl,aJ⟩,?_⟩|refine ⟨⟨_,rfl,aQ.of_eq (by (first|rw [h7 af]|(rw [FG,← e])))⟩,?_⟩)) (aG.all _) (by show no.length-(k+1)<no.length-k;omega)
 have dV:k=no.length:=by simp at dV;omega
 subst dV;rw [ae5];have t':ml (no.length+1) n no=if no.contains n then ml no.length (n+1) no else n:=rfl
 cases aB:no.contains n with
 | true=>
  have kt:=Ez (n:=n) (l:=no) (by simpa using aB);have adB:=IJ n no;rw [aB,g6 C] at t';refine bl ?_;exact bn.mk (n+1) I ⟨by omega,by omega,by rw [gG,t'];exact EA _ _ _ _ af af⟩ (by repeat (first|exact trivial|refine ⟨⟨_,rfl,aJ⟩,?_⟩|refine ⟨⟨_,rfl,aQ.of_eq xc⟩,?_⟩)) (aG.all _) (by show (1000000002-(n+1)).toNat<(1000000002-n).toNat;omega)
 | false=>
  rw [aB,f0 ba] at t';rw [gG,t',i7 hle,f5] at aU;rw [aU];refine b' ?_;exact Fin.bs I C aJ .nil ⟨⟨_,rfl⟩,rfl⟩
def QZ (b:Bool) (o:eC) (_K:a'):Prop:=∃ v,o = .ret (.cw [v,.bool b])
theorem abV (w:bz) (hw:gz w) (L:List ch) (arg:Int) (path:List Int) (bM:oo w L) (aF:path.length≤2) (cn:List Int→Bool) (sJ:∀ s,nA L arg path s=true→aT d0 135 [kW w L arg (path++[s])] (.bool (cn (path++[s])))) :
    bA d0 179 [kW w L arg path] [] (QZ (xA w L cn arg path)):=by
  have an:=bD;have tV:=hw.ja;have qj:=hw.bp;have U:=J5 w L arg path bM af;have ad:=QA w hw.bp L arg path bM aF;have eR:=bM.on arg path;have aU:xA w L cn arg path=match qJ (ft L arg path) (fun _=>false,fun _=>false) with
    | none=>false
    | some a=>match sN w L cn arg path (jV w.owner.length L arg path) a with
      | none=>false
      | some a => !a.2 0&&(ag3 (3+w.ps.length)).all fun k => !(hs w.ps w.ps.length (fun k=>if k=0 then false else a.1 k) k&&a.2 k):=rfl
  have uu:∀ s∈jV w.owner.length L arg path,nA L arg path s=true∧0≤s∧s<(w.owner.length:Int):=fun s ar=>by
    have h:=(CF aF bM.2 s).1 ((FA aF bM.2).1 ar);have:=ya bM.2 h;exact ⟨h,this.1,this.2.1⟩
  have kP:=fun k:Int=>IC w L arg path k af
  have lL:∀ k:Int,(path++[k]).length≤3:=fun k=>by rw [f6];simp;omega
  have ie:=fun k:Int=>Qz w L arg (path++[k]) bM (lL k)
  have mO:(jV w.owner.length L arg path).length≤40:=by
    unfold jV;rw [d9];have:=aj2 (fun s:Nat=>nA L arg path (s:Nat)) (ag3 w.owner.length);rw [ap5] at this;omega
  refine bA.bh ah Tryz.func179 C C fun s I=>?_
  generalize ft L arg path=M at U eR aU;generalize jV w.owner.length L arg path=l at ad uu aU mO;have x7:=eR.1;unfold QZ;generalize xA w L cn arg path=res at aU ⊢;have dm:t7 .i64 (3+((w.ps.map fun l=>ag.aA 1 (l.map a8) .bb).length:Int))=((3+w.ps.length:Nat):Int):=by rw [d9,dz af af];push_cast;rfl
  obtain ⟨gS,uO⟩:∃ gS,gS=3+w.ps.length:=⟨_,rfl⟩;rw [← uO] at dm;unfold kW oZ df bd at *;refine dt ?_;refine aa.rC ah I gS C C C C C C C C C C (ae7 (fun z=>some (ag.int .i64 z)) dm) (ae7 (fun z=>some (ag.int .i64 z)) dm) (by show _*1≤_;omega) af (fun b I=>?_);rw [HX] at I ⊢;refine fI ?_;refine aa.rC ah I gS C C C C C C C C C C (ae7 (fun z=>some (ag.int .i64 z)) dm) (ae7 (fun z=>some (ag.int .i64 z)) dm) (by show _*1≤_;omega) af (fun cT I=>?_);rw [HX] at I ⊢;refine c2 ?_;refine ae.b5 [1,4,5,32,33] C I (σ:=Nat×(Nat→Bool)×(Nat→Bool)) (fun q=>[(34,.int .i64 (q.1:Int))]) (fun q=>[(.own cT,.box 4 (h1 gS q.2.2)),(.own b,.box 4 (h1 gS q.2.1))]) (fun q=>q.1≤M.length∧qJ M (fun _=>false,fun _=>false)=qJ (M.drop q.1) q.2) (fun q=>M.length-q.1) (0,(fun _=>false),(fun _=>false)) ⟨g7 _,rfl⟩ (cl C) (aG.all _) ?_;rintro ⟨j,f,g⟩ ⟨aL,aq⟩ I
  try simp only at aL aq I ⊢
  refine b7 ?_;refine ae.cond C (fun au=>?_) (fun aV=>?_)
  · have au:j<M.length:=by simpa using au
    obtain ⟨x,ab,bL⟩:=b8 (f:=fun x:ch=>(iB x).bK) au;have fm:=eR.at (d5 ab);have dn:=zf x fm.1;have bL:(M.map fun x=>(iB x).bK)[j]? = some (iB x).bK:=bL;rw [ak.b6] at bL;simp only [ak.b6] at dn;rw [drop_cons ab,qJ] at aq;have cy:=fm.2.2.2.2;unfold ak.cells at bL dn;by_cases g1:x.1.op=2;rotate_left
    · rw [g6 (.inl g1)] at aq
      cases az:x.2 with
      | true=>
        rw [az] at dn;rw [az,g6 C] at aq;refine et ?_;refine aa.dY 51 C (by simpa using g1) ?_;refine bl ?_;exact bn.mk (j+1,f,g) I ⟨au,aq⟩ cj (aG.all _) qV
      | false=>
        rw [az] at dn;rw [az,f0 ba] at aq;rw [aq] at aU;simp only at aU;refine et ?_;refine aa.dY 51 C (by simpa using g1) ?_;refine bl ?_;exact Fin.bs (K:=[]) I C aJ .nil ⟨_,by rw [aU]⟩
    rw [g1] at dn;have cy:=cy g1;by_cases g2:x.1.cls=1
    · rw [g2] at dn
      rw [g6 (by simp [g1,g2])] at aq;cases az:x.2 with
      | true=>
        rw [az] at dn;rw [az,g6 C] at aq;refine et ?_;exact bn.mk (j+1,f,g) I ⟨au,aq⟩ cj (aG.all _) qV
      | false=>
        rw [az] at dn;rw [az,f0 ba] at aq;rw [aq] at aU;simp only at aU;refine et ?_;exact Fin.bs (K:=[]) I C aJ .nil ⟨_,by rw [aU]⟩
    by_cases g3:x.1.cls=2
    · rw [g3] at dn
      rw [g6 (by simp [g1,g3])] at aq;cases az:x.2 with
      | true=>
        rw [az] at dn;rw [az,g6 C] at aq;refine et ?_;exact bn.mk (j+1,f,g) I ⟨au,aq⟩ cj (aG.all _) qV
      | false=>
        rw [az] at dn;rw [az,f0 ba] at aq;rw [aq] at aU;simp only at aU;refine et ?_;exact Fin.bs (K:=[]) I C aJ .nil ⟨_,by rw [aU]⟩
    rw [f0 (by simp [g1,g2,g3])] at aq;obtain ⟨c,aB⟩:∃ c:Nat,x.1.cls=c:=⟨x.1.cls.toNat,by omega⟩;rw [aB] at dn g2 g3 aq cy;rw [ae1] at aq;cases az:x.2 with
    | true=>
      rw [az] at dn;rw [az,g6 C] at aq;refine et ?_;refine aa.dh 56 C (by simpa using g2) ?_;refine gr ?_;refine ae.cond C (fun h=>absurd e2 g3) (fun _=>?_);refine bl ?_;refine aa.ej ah c C C C C C C C C C C af ?_;refine aa.hQ ah I (h1 gS fun k=>if k=c then true else g k) C C C C C C C C C aW (by rw [n7];show c*1+1≤_;omega) Ct (fun I=>?_);refine fj ?_;exact bn.mk (j+1,f,fun k=>if k=c then true else g k) I ⟨au,aq⟩ cj aX qV
    | false=>
      rw [az] at dn;rw [az,f0 ba] at aq;refine et ?_;refine aa.dh 56 C (by simpa using g2) ?_;refine gr ?_;refine ae.cond C (fun h=>absurd e2 g3) (fun _=>?_);refine bl ?_;refine aa.ej ah c C C C C C C C C C C af ?_;refine aa.hQ ah I (h1 gS fun k=>if k=c then true else f k) C C C C C C C C C aW (by rw [n7];show c*1+1≤_;omega) Ct (fun I=>?_);refine fj ?_;exact bn.mk (j+1,(fun k=>if k=c then true else f k),g) I ⟨au,aq⟩ cj aX qV
  have aV:j=M.length:=by simp at aV;omega
  rw [eD af,qJ] at aq;rw [aq] at aU;simp only at aU;clear aq;refine c2 ?_;refine ae.b5 [1,4,5,71,72] C I (σ:=Nat×(Nat→Bool)×(Nat→Bool)) (fun q=>[(73,.int .i64 (q.1:Int))]) (fun q=>[(.own cT,.box 4 (h1 gS q.2.2)),(.own b,.box 4 (h1 gS q.2.1))]) (fun q=>q.1≤l.length∧sN w L cn arg path l (f,g)=sN w L cn arg path (l.drop q.1) q.2) (fun q=>l.length-q.1) (0,f,g) ⟨g7 _,rfl⟩ (cl C) (aG.all _) ?_;rintro ⟨i,f2,g2⟩ ⟨aR,cO⟩ I
  try simp only at aR cO I ⊢
  refine b7 ?_;refine ae.cond C (fun au=>?_) (fun dV=>?_)
  · have au:i<l.length:=by simpa using au
    obtain ⟨y,ay,c8⟩:=b8 (f:=a8) au;obtain ⟨abW,adC,hK⟩:=uu y (d5 ay);have sP:=sJ y abW;have kP:=kP y;have ie:=ie y;rw [drop_cons ay,sN] at cO;obtain ⟨k,rfl⟩:∃ k:Nat,y=k:=⟨y.toNat,by omega⟩;have sL:k<w.owner.length:=by omega
    obtain ⟨o,ai,IN⟩:=b8 (f:=a8) sL;have lY:=hw.own o (d5 ai);obtain ⟨lO,rfl⟩:∃ q:Nat,o=q:=⟨o.toNat,by omega⟩;rw [ae1,d7,ai,af9,ae1] at cO;unfold a8 at c8 IN;unfold a8 at sP kP ie;cases B':lo L arg (path++[(k:Int)])<;>cases JK:cn (path++[(k:Int)])<;>rw [B'] at ie cO<;>rw [JK] at sP cO<;>simp only [aj3,ak2,aq5,ak8,af8,ag7,ah'] at cO
    · rw [cO] at aU
      simp only at aU;refine et ?_;exact Fin.bs (K:=[]) I C aJ .nil ⟨_,by rw [aU]⟩
    · refine et ?_
      refine aa.ej ah lO C C C C C C C C C C af ?_;refine aa.hQ ah I (h1 gS fun k=>if k=lO then true else f2 k) C C C C C C C C C aW (by rw [n7];show lO*1+1≤_;omega) Ct (fun I=>?_);refine bl ?_;exact bn.mk (i+1,(fun k=>if k=lO then true else f2 k),g2) I ⟨au,cO⟩ cj aX vI
    · refine et ?_
      refine aa.ej ah lO C C C C C C C C C C af ?_;refine aa.hQ ah I (h1 gS fun k=>if k=lO then true else g2 k) C C C C C C C C C aW (by rw [n7];show lO*1+1≤_;omega) Ct (fun I=>?_);refine fj ?_;exact bn.mk (i+1,f2,fun k=>if k=lO then true else g2 k) I ⟨au,cO⟩ cj aX vI
    · refine et ?_
      exact bn.mk (i+1,f2,g2) I ⟨au,cO⟩ cj (aG.all _) vI
  have dV:i=l.length:=by simp at dV;omega
  rw [eD af,sN] at cO;rw [cO] at aU;simp only at aU;clear cO sJ kP ie ad;refine bl ?_;refine aa.ej ah 0 C C C C C C C C C C af ?_;refine aa.hQ ah I (h1 gS fun k=>if k=0 then false else f2 k) C C C C C C C C C aW (by rw [n7];show 0*1+1≤_;omega) Ct (fun I=>?_);refine fI ?_;refine aa.ej ah 0 C C C C C C C C C C af ?_;refine aa.jd ah I C C C C C C aW C (v := .bool (g2 0)) (by rw [Nat.zero_mul];exact tU g2 af) ?_;cases Q0:g2 0 with
  | true=>
    rw [Q0] at aU;have aU:res=false:=aU;refine ed ?_;exact Fin.bs (K:=[]) I C aJ .nil ⟨_,by rw [aU]⟩
  | false=>
  rw [Q0,aj3,f5] at aU;refine bl ?_;refine aa.pG ah C C C C C C C ?_;refine dG ?_;obtain ⟨f3,Q1⟩:∃ f3:Nat→Bool,f3=fun k=>if k=0 then false else f2 k:=⟨_,rfl⟩
  rw [← Q1] at I aU ⊢;clear Q1;refine ae.b5 [1,4,5] C I (σ:=Nat×(Nat→Bool)) (fun q=>[(15,.int .i64 (2+q.1:Int))]) (fun q=>[(.own b,.box 4 (h1 gS q.2)),(.own cT,.box 4 (h1 gS g2))]) (fun q=>q.1≤w.ps.length∧hs w.ps w.ps.length f3=hs w.ps q.1 q.2) (fun q=>q.1) (w.ps.length,f3) ⟨g8 _,rfl⟩ (by repeat (first|exact trivial|refine ⟨⟨_,rfl,aJ⟩,?_⟩|refine ⟨⟨_,rfl,aQ.of_eq (by (rw [dz af af];congr 1;rw [uO];push_cast;omega))⟩,?_⟩)) aX ?_;rintro ⟨m,f4⟩ ⟨hm,fa⟩ I
  try simp only at hm fa I ⊢
  refine b7 ?_;refine ae.cond C (fun kQ=>?_) (fun ka=>?_)
  · have kQ:1≤m:=by simp at kQ;omega
    obtain ⟨q,rfl⟩:∃ q,m=q+1:=⟨m-1,by omega⟩;obtain ⟨pl,ih,abX⟩:=b8 (f:=fun l:List Int=>ag.aA 1 (l.map a8) .bb) (show q<w.ps.length by omega);have adD:=hw.short pl (d5 ih);have HZ:=fun p aF=>w3 hw ih (p:=p) aF
    have jG:(2+((q+1:Nat):Int))=((3+q:Nat):Int):=by push_cast;omega
    have ix:t7 .i64 (((3+q:Nat):Int)-3)=(q:Int):=by rw [dz af af];omega
    have ad7:t7 .i64 (((3+q:Nat):Int)-1)=2+(q:Int):=by rw [dz af af];omega
    rw [hs,d7,ih,af9] at fa;rw [jG];refine dG ?_;refine aa.ej ah (3+q) C C C C C C C C C C af ?_;refine aa.jd ah I C C C C C C aW C (v := .bool (f4 (3+q))) (by rw [ag'];exact tU f4 af) ?_;cases Q2:f4 (3+q) with
    | false=>
      have e:(fun k=>f4 k||(f4 (3+q)&&pl.contains (k:Int)))=f4:=funext fun k=>by rw [Q2];simp
      rw [e] at fa;refine bl ?_;exact bn.mk (q,f4) I ⟨by show q≤_;omega,fa⟩ Qc aX (aj6 q)
    | true=>
      rw [Q2] at fa;simp only [f5] at fa;refine bl ?_;refine aa.idx ah q C C C C C C C C C C ix abX C ?_;refine dG ?_
      refine ae.b5 [1,4,5,15,133,134] C I (σ:=Nat) (fun i=>[(135,.int .i64 (i:Int))]) (fun i=>[(.own b,.box 4 (h1 gS fun k=>f4 k||(pl.take i).contains (k:Int))),(.own cT,.box 4 (h1 gS g2))]) (fun i=>i≤pl.length) (fun i=>pl.length-i) 0 (g7 _) (cl C) (by
        rw [show (fun k=>f4 k||(pl.take 0).contains (k:Int))=f4 from funext fun k=>by rw [List.take_zero];simp]
        exact aG.all _) ?_
      rintro i aR I
      try simp only at aR I ⊢
      refine b7 ?_;refine ae.cond C (fun au=>?_) (fun aV=>?_)
      · have au:i<pl.length:=by simpa using au
        obtain ⟨p,aF,fg⟩:=b8 (f:=a8) au;have WB:=HZ p (d5 aF);obtain ⟨yc,rfl⟩:∃ yc:Nat,p=yc:=⟨p.toNat,by omega⟩;have Eh:∀ k,(f4 k||(pl.take (i+1)).contains (k:Int))=if k=yc then true else (f4 k||(pl.take i).contains (k:Int)):=fun k=>by
          rw [HY aF];by_cases e:k=yc
          · subst e;rw [g6 C];simp
          · rw [f0 e,show ((k:Int)==(yc:Int))=false by rw [beq_eq_false_iff_ne];omega,am3]
        unfold a8 at fg;refine dG ?_;refine aa.ej ah yc C C C C C C C C C C af ?_;refine aa.hQ ah I (h1 gS fun k=>f4 k||(pl.take (i+1)).contains (k:Int)) C C C C C C C C C aW (by rw [n7];show yc*1+1≤_;omega) (by rw [mQ,ag'];exact Bt Eh) (fun I=>?_);refine fj ?_;exact bn.mk (i+1) I au cj aX (by show pl.length-(i+1)<pl.length-i;omega)
      have aV:i=pl.length:=by simp at aV;omega
      rw [aV,ae5] at I ⊢;refine kL ?_;exact bn.mk (q,fun k=>f4 k||pl.contains (k:Int)) I ⟨by show q≤_;omega,fa⟩ Qc aX (aj6 q)
  have ka:m=0:=by simp at ka;omega
  subst ka;rw [hs] at fa;rw [fa] at aU;clear fa;refine bl ?_;refine aa.pG ah C C C C C C C ?_;refine dG ?_;refine ae.b5 [4,5,144] C I (σ:=Nat) (fun i=>[(145,.int .i64 (i:Int))]) (fun _=>[(.own b,.box 4 (h1 gS f4)),(.own cT,.box 4 (h1 gS g2))]) (fun i=>i≤gS∧((ag3 gS).all fun k => !(f4 k&&g2 k))=((ag3 gS).drop i).all fun k => !(f4 k&&g2 k)) (fun i=>gS-i) 0 ⟨g7 _,rfl⟩ (cl C) (aG.all _) ?_;rintro i ⟨aR,bk⟩ I
  try simp only at aR bk I ⊢
  refine b7 ?_;refine ae.cond C (fun au=>?_) (fun aV=>?_)
  · have au:i<gS:=by simpa using au
    rw [drop_cons (ar3 au),ak6] at bk;refine bl ?_;refine aa.ej ah i C C C C C C C C C C au ?_;refine aa.jd ah I C C C C C C aW C (v := .bool (f4 i)) (by rw [ag'];exact tU f4 au) ?_;cases p5:f4 i with
    | false=>
      rw [p5] at bk;refine bl ?_;exact bn.mk (i+1) I ⟨au,bk⟩ cj (aG.all _) (by show gS-(i+1)<gS-i;omega)
    | true=>
      rw [p5,f5] at bk;refine dU ?_;refine aa.ej ah i C C C C C C C C C C au ?_;refine aa.jd ah I C C C C C C aW C (v := .bool (g2 i)) (by rw [ag'];exact tU g2 au) ?_;cases ER:g2 i with
      | true=>
        rw [ER] at bk;have aU:res=false:=by rw [aU,← uO,bk];rfl
        refine bl ?_;exact Fin.bs (K:=[]) I C aJ .nil ⟨_,by rw [aU]⟩
      | false=>
        rw [ER] at bk;refine bl ?_;exact bn.mk (i+1) I ⟨au,bk⟩ cj (aG.all _) (by show gS-(i+1)<gS-i;omega)
  have aV:i=gS:=by simp at aV;omega
  have aU:res=true:=by rw [aU,← uO,bk,aV,List.drop_of_length_le ba];rfl
  refine ez ?_;exact Fin.bs (K:=[]) I C (aQ.cw (.cons (aQ.any _) (.one aJ))) .nil ⟨.any,by rw [aU]⟩
theorem Q3 (w:bz) (hw:gz w) (L:List ch) (arg:Int) (bM:oo w L):∀ (k:Nat) (path:List Int),path.length≤2→3≤k+path.length→aT d0 135 [kW w L arg path] (.bool (oY w L arg k path))
  | 0,path,aF,al=>by omega
  | k+1,path,aF,al=>by
    have U:=abS w hw.bp L arg path bM aF;have ad:=abR w hw.bp L arg path bM aF
    have bf:=abV w hw L arg path bM aF (oY w L arg k) (fun s ar=>by
      have:=(ya bM.2 ar).2.2
      have e:(path++[s]).length=path.length+1:=by simp
      exact Q3 w hw L arg bM k (path++[s]) af af)
    have hm:oY w L arg (k+1) path=(vn w.owner.length L arg path||(ub w.owner.length L arg path||xA w L (oY w L arg k) arg path)):=by rw [oY]
    rw [hm];refine aT.bh ah Tryz.func135 C C fun s I=>?_
    unfold kW oZ df bd at *;refine dt ?_;refine aa.bX rfl rfl rfl rfl rfl U I .nil ?_ (fun _ _ ⟨⟨_,h⟩,_⟩ _=>by cases h);rintro _ _ ⟨⟨v,⟨⟩⟩,rfl⟩ I;cases vn w.owner.length L arg path with
    | true=>
      rw [ak3];refine ed ?_;exact bB I
    | false=>
    rw [ag6];cases kg:ub w.owner.length L arg path with
    | true=>
      rw [kg] at ad;rw [ak3];refine b' ?_;exact bB I
    | false=>
    rw [kg] at ad;rw [ag6];refine b' ?_;refine aa.bX rfl rfl rfl rfl rfl bf I .nil ?_ (fun _ _ ⟨_,h⟩ _=>by cases h);rintro _ aO ⟨v,⟨⟩⟩ I;refine ed ?_;exact bB I
theorem abY (w:bz) (hw:gz w) (L:List ch) (bM:oo w L):aT d0 89 [fz w,oZ L] (.bool (BL w L)):=by
 have an:=bD;refine aT.bh ah Tryz.func89 C C fun s I=>?_
 have U:=fun a:Nat=>Q3 w hw L (a:Int) bM 3 [] ba ba
 have eG:BL w L=(ag3 3).all fun a=>oY w L ((a:Nat):Int) 3 []:=rfl
 rw [eG];unfold kW oZ fz fE df bd at *;refine fP ?_;refine ae.b5 [1,2] C I (σ:=Nat) (fun i=>[(5,.int .i64 (i:Int))]) (fun _=>[]) (fun i=>i≤3∧((ag3 3).all fun a=>oY w L ((a:Nat):Int) 3 [])=((ag3 3).drop i).all fun a=>oY w L ((a:Nat):Int) 3 []) (fun i=>3-i) 0 ⟨g7 _,rfl⟩ (cl C) aX ?_;rintro i ⟨aR,bk⟩ I
 try simp only at aR bk I ⊢
 refine b7 ?_;refine ae.cond C (fun au=>?_) (fun aV=>?_);rotate_left
 ·have aV:i=3:=by simp at aV;omega
  rw [bk,aV];refine ez ?_;exact bB I
 have au:i<3:=by simp at au;omega
 rw [drop_cons (ar3 au),ak6] at bk;have U:=aT.args (.one (aQ.agg (.cons aJ (.cons aJ (.cons aJ (.cons aJ (.cons (aQ.empty (sz:=0) (own := .nil)) (.one aJ)))))))) (U i);cases aB:oY w L ((i:Nat):Int) 3 [] with
 | false=>
  rw [aB] at U bk;rw [bk];refine et ?_;exact bB I
 | true=>
  rw [aB] at U bk;refine et ?_;exact bn.mk (i+1) I ⟨au,bk⟩ cj aX (by show 3-(i+1)<3-i;omega)
theorem abZ (f:ak):aT d0 129 [f.bK] (f.not.bK):=by
 have an:=bD;refine aT.bh ah Tryz.func129 C C fun s I=>?_
 rw [ak.b6,ak.b6];unfold ak.cells
 repeat (first|(refine LG I ?_;clear I;intro I)|refine aa.eb ah I rfl rfl rfl rfl rfl rfl rfl (fun cH I=>?_))
 refine Fin.cB I (oH C C (bo.get aW I) C) (aQ.trans (aQ.agg (.cons aJ (.cons aJ (.cons (aQ.empty (sz':=1)) (.cons aJ (.cons aJ (.one aQ.bb))))))) (aQ.of_eq ?_));exact ae7 (fun z=>ag.agg [.int .i64 5,.int .i64 0,.aA 1 [] .bb,.int .i64 0,.int .i64 0,.aA 6 [z] .bb]) (ak.b6 f).symm
theorem Q4:∀ (l:List ak) (i v j:Nat) (x:ak),l[j]? = some x→(sR i l v)[j]? = some (x,!v.testBit (i+j))
  | y::r,i,v,0,x,h=>by
    rw [sR];have:y=x:=by simpa using h
    rw [this];rfl
  | y::r,i,v,j+1,x,h=>by
    rw [sR,List.getElem?_cons_succ,Q4 r (i+1) v j x e2];rw [show i+1+j=i+(j+1) by omega]
theorem Q5:∀ (l:List ak) (i v:Nat),(sR i l v).length=l.length
 | [],_,_=>rfl
 | y::r,i,v=>by rw [sR,g9,Q5 r,g9]
theorem Kb {l:List ak} {v j:Nat} {x:ak} (h:l[j]? = some x):(qK l v)[j]? = some (x,!v.testBit j):=by
 have:=Q4 l 0 v j x h;rwa [af5] at this
theorem FH (l:List ak) (v:Nat):(qK l v).length=l.length:=Q5 l 0 v
theorem Q6 {w:bz} {l:List ak} (aC:iD w l) (ig:l.length≤7) (v:Nat):oo w (qK l v):=by
 refine ⟨by rw [FH];omega,fun x ab=>?_⟩;obtain ⟨j,aL⟩:=ai0 ab;have ra:=qs aL;rw [FH] at ra;have h:=Kb (v:=v) (f7 ra);rw [aL] at h;simp only [ao1.injEq] at h;subst h;have:=aC _ (an6 ra);rw [oL,f8] at this;exact ⟨this.1.1,this.2⟩
theorem ab0 (p:bT) (aF:ga p) (dk:gA p=true) (l:List ak) (fq:l.length≤7) (cX:iD (ca p) l) (v:Nat) (aw:v<2^63):aT d0 82 [cW p,dd l,.int .i64 (v:Int)] (.bool (mW (ca p) l v)):=by
 have an:=bD;have oc:=x1 dk;have Q7:=Q6 cX fq v;have U:=abY (ca p) oc (qK l v) Q7;have ad:=H3 p aF (by have:=oc.bp;have e:(ca p).owner=fL 0 p.cm:=rfl;rw [e] at this;omega);have al:=fun i (aR:i<64)=>J4 v i aw aR
 rw [QW oc Q7.2] at U;have aB:mW (ca p) l v=nB (ca p) (ev (qK l v)):=rfl;rw [aB];have mO:=FH l v;refine aT.bh ah Tryz.func82 C C fun s I=>?_
 generalize nB (ca p) (ev (qK l v))=res at *;obtain ⟨xs,c'⟩:∃ xs:Nat→List ag,∀ j,xs j=((qK l v).take j).map (fun x=>(iB x).bK):=⟨_,fun _=>rfl⟩;have bq:xs 0=[]:=by rw [c'];rfl
 have y5:∀ j,(xs j).length≤j:=fun j=>by rw [c',d9,ae8];omega
 unfold cW cZ fz fE df bd dd oZ at *;refine fP ?_;refine ae.h0 I 58 6 0 fun I=>?_
 refine ae.b5 [1,2,3] C I (σ:=Nat×bN) (fun q=>[(8,.int .i64 (q.1:Int)),(7,.aA 6 (xs q.1) q.2)]) (fun q=>[(q.2,.row 58 6 (xs q.1).length)]) (fun q=>q.1≤l.length) (fun q=>l.length-q.1) (0,.nil) (g7 _) ⟨⟨_,rfl,aJ⟩,⟨_,rfl,by rw [bq];exact aQ.nil gN⟩,trivial⟩ xd ?_;rintro ⟨j,own⟩ aL I;simp only at aL I ⊢;refine b7 ?_;refine ae.cond C (fun au=>?_) (fun aV=>?_);rotate_left
 ·have aV:j=l.length:=by simp at aV;omega
  subst aV;have he:xs l.length=(qK l v).map (fun x=>(iB x).bK):=by rw [c',← mO,ae5]
  rw [he];refine c2 ?_;exact bB I
 have au:j<l.length:=by simpa using au
 obtain ⟨x,ab,bL⟩:=b8 (f:=ak.bK) au;have ar:=c' (j+1);rw [il (Kb (v:=v) ab),ad',← c'] at ar;have ar:xs (j+1)=xs j++[(iB (x,!v.testBit j)).bK]:=ar;have cR:(xs (j+1)).length=(xs j).length+1:=by rw [ar];simp
 have l1:=y5 j;have al:=al j af;have bf:=abZ x;rw [ak.b6] at bL;cases j7:v.testBit j with
 | true=>
  rw [j7] at al ar;rw [show iB (x,!true)=x from rfl,ak.b6] at ar;unfold ak.cells at bL ar;refine c2 ?_;refine aa.fO ah I C C C C C C C di C C C C C C C C aW gY zq af (fun bR I=>?_);refine fj ?_;exact bn.mk (j+1,.own bR) I au kM u9 n4
 | false=>
  rw [j7] at al ar;rw [show iB (x,!false)=x.not from rfl,ak.b6] at ar;rw [ak.b6,ak.b6] at bf;unfold ak.cells at bL bf ar;refine c2 ?_;refine aa.fO ah I C C C C C C C di C C C C C C C C aW gY zq af (fun bR I=>?_);refine fj ?_;exact bn.mk (j+1,.own bR) I au kM u9 n4
theorem ab1 (p:bT) (n:Int):aT d0 97 [cW p,.int .i64 n] (.bool (pZ p n)):=by
 have an:=bD;refine aT.bh ah Tryz.func97 C C fun s I=>?_
 unfold cW cZ bd pZ
 repeat' (first|(with_reducible first|apply ae.seq|apply b0|apply ae.ret)|refine c4 C ?_|refine ae.cF ?_|refine aa.nil ?_|refine cv C ?_|refine aa.skip C C C ?_|(fail_if_success refine aa.same true C ?_);(fail_if_success refine aa.same false C ?_);refine aa.hh C C (fun h=>?_) (fun h=>?_))
 all_goals exact Fin.cB I C (aQ.of_eq sx)
theorem ab2 (p:bT) (aF:ga p) (dk:gA p=true) (n:Int) (fq:(ct p n).length≤7):aT d0 79 [cW p,.int .i64 n] (.aA 1 (ic (hF (ca p) (ct p n))) .bb):=by
 have an:=bD;have U:=Fy p aF dk n;have cX:=(JD dk n).1;have ad:=fun v aw=>ab0 p aF dk (ct p n) fq cX v aw
 generalize ct p n=l at *;have p4:2^l.length≤2^7:=ag2 af fq;have y7:hF (ca p) l=pj (ca p) l (2^l.length):=rfl;rw [y7];refine aT.bh ah Tryz.func79 C C fun s I=>?_
 obtain ⟨xs,c'⟩:∃ xs:Nat→List ag,∀ j,xs j=ic (pj (ca p) l j):=⟨_,fun _=>rfl⟩;have bq:xs 0=[]:=by rw [c'];rfl
 have y5:∀ j,(xs j).length≤j:=fun j=>by rw [c'];unfold ic;rw [d9];exact P4 _ _ _
 have vH:∀ j,xs (j+1)=xs j++(if mW (ca p) l j then [.int .i64 (j:Int)] else []):=fun j=>by
  rw [c',c',P3];unfold ic;rw [ad'];split<;>rfl
 unfold cW cZ bd dd at *;refine b' ?_;refine ae.h0 I 3 1 0 fun I=>?_
 refine ae.b5 [1,2,5] C I (σ:=Nat×bN) (fun q=>[(7,.int .i64 (q.1:Int)),(6,.aA 1 (xs q.1) q.2)]) (fun q=>[(q.2,.row 3 1 (xs q.1).length)]) (fun q=>q.1≤2^l.length) (fun q=>2^l.length-q.1) (0,.nil) (g7 _) ⟨⟨_,rfl,aJ⟩,⟨_,rfl,by rw [bq];exact aQ.nil gN⟩,trivial⟩ xd ?_;rintro ⟨j,own⟩ aL I;simp only at aL I ⊢;refine jE ?_;refine aa.shl ((2^l.length:Nat):Int) C C C C C C af (by rw [d9];exact Fh fq) ?_;refine gr ?_;refine ae.cond C (fun au=>?_) (fun aV=>?_);rotate_left
 ·have aV:j=2^l.length:=by
   have:¬ ((j:Int)<((2^l.length:Nat):Int)):=by simpa using aV
   omega
  subst aV;rw [c'];refine ez ?_;exact Fin.cB I C aQ.bb
 have au:j<2^l.length:=by
  have:((j:Int)<((2^l.length:Nat):Int)):=by simpa using au
  omega
 have ar:=vH j;have l1:=y5 j;have ad:=ad j af;cases aB:mW (ca p) l j with
 | false=>
  rw [aB,f0 ba,d6] at ar;rw [aB] at ad;refine b' ?_;exact bn.mk (j+1,own) I au kM Bf (by show 2^l.length-(j+1)<2^l.length-j;omega)
 | true=>
  rw [aB,g6 C] at ar;rw [aB] at ad;have cR:(xs (j+1)).length=(xs j).length+1:=by rw [ar];simp
  refine c2 ?_;refine aa.fO ah I C C C C C C C di C C C C C C C C aW gY jS af (fun bR I=>?_);refine fj ?_;exact bn.mk (j+1,.own bR) I au kM u9 (by show 2^l.length-(j+1)<2^l.length-j;omega)
theorem ab3 (w:bz) (l:List ak) (fq:l.length≤7) (cX:iD w l) (v:Nat) (aw:v<2^63):∀ (k:Nat) (f:ak),f.size≤k→gH w f=true→aT d0 130 [dd l,f.bK,.int .i64 (v:Int)] (.bool (p0 l v f)):=by
 have lD:bC=1099511627776:=rfl;intro k
 induction k with
 | zero=>intro x h;have:=x.size_eq;omega
 | succ k a1=>
  intro f az av;have iL:=f.size_eq;have fA:=Ow l v f;have zI:=av;rw [oL,f8] at av;obtain ⟨n6,kU⟩:=av;refine aT.bh ah Tryz.func130 C C fun s I=>?_
  rcases Bv n6 with ⟨U,ad⟩|⟨aC,ad,U⟩|⟨U,x,ad⟩|⟨U,x,y,ad⟩
  ·rw [U,g6 C] at fA
   rw [fA,ak.b6];unfold ak.cells;rw [U];refine bl ?_;exact bB I
  ·have r3:=s4 zI aC
   have fA:p0 l v f=match l.findIdx? (fun x=>fT x f) with
    | some i=>v.testBit i
    | none=>false:=by
    rw [fA,f0 af,f0 af,f0 af,f0 af];cases l.findIdx? (fun x=>fT x f)<;>rfl
   have h3:=fun x (ab:x∈l)=>Qu x f (x4 (cX x ab).1 (cX x ab).2) ad (by have:=s4 (cX x ab).1 (cX x ab).2;omega) af
   have nw:=fun i (aR:i<64)=>J4 v i aw aR
   rw [fA];unfold dd at *;rw [ak.b6] at h3 ⊢;unfold ak.cells at h3 ⊢;have h3:=fun x ab=>h3 x ab
   rcases U with h|h|h
   all_goals
    rw [h] at h3 ⊢;refine bl ?_;refine ae.b5 [0,2,4] C I (σ:=Nat) (fun j=>[(7,.int .i64 (j:Int))]) (fun _=>[]) (fun j=>j≤l.length∧∀ i x,i<j→l[i]? = some x→fT x f=false) (fun j=>l.length-j) 0 ⟨g7 _,fun i x aR=>absurd aR (an2 _)⟩ (cl C) aX ?_;rintro j ⟨aL,aq⟩ I
    try simp only at aL aq I ⊢
    refine b7 ?_;refine ae.cond C (fun au=>?_) (fun aV=>?_);rotate_left
    ·have aV:j=l.length:=by simp at aV;omega
     have ab:l.findIdx? (fun x=>fT x f)=none:=by
      rw [List.findIdx?_eq_none_iff];intro z bG;obtain ⟨i,aR⟩:=ai0 bG;have U:=qs aR;exact aq i z af aR
     rw [ab];refine ez ?_;exact bB I
    have au:j<l.length:=by simpa using au
    obtain ⟨x,ab,bL⟩:=b8 (f:=ak.bK) au;have h3:=h3 x (d5 ab);have nw:=nw j af;rw [ak.b6] at bL h3;unfold ak.cells at bL h3;cases aB:fT x f with
    | true=>
     rw [aB] at h3;have p5:l.findIdx? (fun x=>fT x f)=some j:=by
      rw [List.findIdx?_eq_some_iff_getElem];refine ⟨au,by rw [(List.getElem?_eq_some_iff.1 ab).2];exact aB,fun i aR=>?_⟩;have:=aq i l[i] aR (f7 af);simpa using this
     rw [p5];refine pD ?_;exact bB I
    | false=>
     rw [aB] at h3;refine b' ?_
     exact bn.mk (j+1) I ⟨au,fun i z aR bG=>by
      rcases ah5.1 aR with aR|rfl
      ·exact aq i z aR bG
      ·rw [ab] at bG;cases bG;exact aB⟩ cj aX n4
  ·have b2:([x].map ak.bK)[0]? = some (.agg x.cells):=by rw [← ak.b6];rfl
   have ab:=ak.h8 (l:=f.kids) (x:=x) ld;have i1:=a1 x af (kr kU ld);rw [U,f0 af,g6 C,ad,xK l v 0 [x] x C] at fA;rw [fA];unfold dd at *;rw [ak.b6] at i1 ⊢;unfold ak.cells at b2 i1 ⊢;rw [U,ad];refine b' ?_;exact bB I
  ·have b2:([x,y].map ak.bK)[0]? = some (.agg x.cells):=by rw [← ak.b6];rfl
   have bU:([x,y].map ak.bK)[1]? = some (.agg y.cells):=by rw [← ak.b6];rfl
   have ab:=ak.h8 (l:=f.kids) (x:=x) ld;have ay:=ak.h8 (l:=f.kids) (x:=y) sy;have i1:=a1 x af (kr kU ld);have i2:=a1 y af (kr kU sy);rw [ad,xK l v 0 [x,y] x C,xK l v 1 [x,y] y C] at fA;unfold dd at *;rw [ak.b6] at i1 i2 ⊢;unfold ak.cells at b2 bU i1 i2 ⊢;rw [ad];rcases U with U|U
   all_goals
    rw [U] at fA ⊢;cases vh:p0 l v x with
    | true=>
     rw [vh] at i1 fA;simp only [f5,ak3] at fA;simp at fA;rw [fA];refine b' ?_;exact bB I
    | false=>
     rw [vh] at i1 fA;simp at fA;rw [fA];refine b' ?_;exact bB I
def eE:List Nat→Nat
 | []=>0
 | d::r=>d+3*eE r
def jv (v:Nat):Nat→List Nat→Bool
 | _,[]=>true
 | i,d::r => !(decide (d=1)&&v.testBit i||decide (d=2) && !v.testBit i)&&jv v (i+1) r
theorem FI:∀ {ds:List Nat},(∀ d∈ds,d<3)→eE ds<3^ds.length
  | [],_=>by simp [eE]
  | d::r,h=>by
    have U:=h d i6;have ad:=FI (fun x ab=>h x (i0 _ ab));rw [eE,g9,ao2];omega
theorem Kc (v:Nat):∀ (ds:List Nat) (i:Nat),eE ds=0→jv v i ds=true
  | [],i,_=>rfl
  | d::r,i,h=>by
    rw [eE] at h;have U:d=0:=by omega
    have ad:eE r=0:=by omega
    subst U;rw [jv,Kc v r (i+1) ad];rfl
theorem Kd:∀ {ds:List Nat} {i d:Nat},ds[i]? = some 0→eE (ds.set i d)=eE ds+d*3^i
  | x::r,0,d,h=>by
    have:x=0:=by simpa using h
    subst this;rw [ar',eE,eE];omega
  | x::r,i+1,d,h=>by
    rw [at',eE,eE,Kd (i:=i) e2,ao2,Nat.mul_add];rw [show d*(3^i*3)=3*(d*3^i) by rw [av2 (3^i) 3,← az5,av2 d 3,az5]];omega
theorem Q8:∀ {ds:List Nat} {i d:Nat},(∀ d∈ds,d<3)→ds[i]? = some d→eE ds / 3^i % 3=d
  | x::r,0,d,ax,h=>by
    have:x=d:=by simpa using h
    subst this;have:=ax x i6;rw [eE,Nat.pow_zero,Nat.div_one];omega
  | x::r,i+1,d,ax,h=>by
    have U:=Q8 (ds:=r) (i:=i) (fun y ay=>ax y (i0 _ ay)) e2;have:=ax x i6;rw [eE,ao2,av2 (3^i) 3,← Nat.div_div_eq_div_mul,show (x+3*eE r) / 3=eE r by omega];exact U
theorem Ke (v:Nat):∀ {ds:List Nat} {i:Nat} (k d:Nat),ds[i]? = some 0→jv v k (ds.set i d)=(jv v k ds && !(decide (d=1)&&v.testBit (k+i)||decide (d=2) && !v.testBit (k+i)))
  | x::r,0,k,d,h=>by
    have:x=0:=by simpa using h
    subst this;rw [ar',jv,jv,ao'];simp only [show decide ((0:Nat)=1)=false from rfl,show decide ((0:Nat)=2)=false from rfl,f9,am3,aj3,f5];exact Bool.and_comm _ _
  | x::r,i+1,k,d,h=>by
    rw [at',jv,jv,Ke v (i:=i) (k+1) d e2,az1,show k+1+i=k+(i+1) by omega]
theorem Kf (v:Nat):∀ {ds:List Nat} {i k d:Nat},ds[i]? = some d→jv v k ds=true→(d=1→v.testBit (k+i)=false)∧(d=2→v.testBit (k+i)=true)
  | x::r,0,k,d,h,a7=>by
    have:x=d:=by simpa using h
    subst this;rw [jv,f8] at a7;have a7:=a7.1;rw [ao'];constructor
    · rintro rfl;simpa using a7
    · rintro rfl;simpa using a7
  | x::r,i+1,k,d,h,a7=>by
    rw [jv,f8] at a7;have:=Kf v (i:=i) (k:=k+1) (d:=d) e2 a7.2;rw [show k+(i+1)=k+1+i by omega];exact this
def behind (vs ds:List Nat):List Nat:=vs.filter fun v=>jv v 0 ds
theorem ab4 {vs ds:List Nat} {i:Nat} (h:ds[i]? = some 0):behind vs (ds.set i 1)=fw i (behind vs ds):=by
 unfold behind fw;rw [as3];congr 1;funext v;rw [Ke v 0 1 h,af5];cases jv v 0 ds<;>cases v.testBit i<;>rfl
theorem ab5 {vs ds:List Nat} {i:Nat} (h:ds[i]? = some 0):behind vs (ds.set i 2)=fu i (behind vs ds):=by
 unfold behind fu;rw [as3];congr 1;funext v;rw [Ke v 0 2 h,af5];cases jv v 0 ds<;>cases v.testBit i<;>rfl
theorem ab6 {vs ds:List Nat} {i d:Nat} (h:ds[i]? = some d) (bq:d≠0) (al:d<3):((fu i (behind vs ds)).isEmpty||(fw i (behind vs ds)).isEmpty)=true:=by
 rw [aj1];rcases (by omega:d=1∨d=2) with rfl|rfl
 ·left
  rw [ax6];unfold fu behind;rw [as3,ay6];intro v _ an;rw [f8] at an;have:=(Kf v h an.2).1 C;rw [af5] at this;rw [this] at an;cases an.1
 ·right
  rw [ax6];unfold fw behind;rw [as3,ay6];intro v _ an;rw [f8] at an;have:=(Kf v h an.2).2 C;rw [af5] at this;rw [this] at an;cases an.1
def my (ds:List Nat):Nat:=(ds.filter fun d=>d==0).length
theorem Kg:∀ {ds:List Nat} {i d:Nat},ds[i]? = some 0→d≠0→my (ds.set i d)<my ds
  | x::r,0,d,h,ax=>by
    have:x=0:=by simpa using h
    subst this;unfold my;rw [ar',ah9,ah9,f0 (by simpa using ax),g6 (by rfl),g9];exact aj6 _
  | x::r,i+1,d,h,ax=>by
    have:=Kg (ds:=r) (i:=i) e2 ax;unfold my at *;rw [at',ah9,ah9];split
    · rw [g9,g9];omega
    · exact this
theorem Q9 (n:Nat) (az:n≤7):aT d0 154 [.int .i64 (n:Int)] (.int .i64 ((3^n:Nat):Int)):=by
 have an:=bD;refine aT.bh ah Tryz.func154 C C fun s I=>?_
 have aF:∀ j,j≤7→3^j≤3^7:=fun j aL=>ag2 af aL
 refine fP ?_;refine ae.b5 [0] C I (σ:=Nat) (fun j=>[(4,.int .i64 (j:Int)),(3,.int .i64 ((3^j:Nat):Int))]) (fun _=>[]) (fun j=>j≤n) (fun j=>n-j) 0 (g7 _) (cl C) aX ?_;rintro j aL I
 try simp only at aL I ⊢
 have n1:=aF j af;refine b7 ?_;refine ae.cond C (fun au=>?_) (fun aV=>?_);rotate_left
 ·have aV:j=n:=by simp at aV;omega
  subst aV;refine ez ?_;exact bB I
 have au:j<n:=by simpa using au
 have p4:t7 .i64 (3*((3^j:Nat):Int))=((3^(j+1):Nat):Int):=by
  have al:3^(j+1)=3*3^j:=by rw [ao2,av2]
  rw [al];generalize 3^j=e at *;rw [dz af af];omega
 refine bl ?_;exact bn.mk (j+1) I au (by repeat (first|exact trivial|refine ⟨⟨_,rfl,aJ⟩,?_⟩|refine ⟨⟨_,rfl,aQ.of_eq (by (first|rw [h7 af]|rw [p4]))⟩,?_⟩)) aX (by show n-(j+1)<n-j;omega)
theorem Q' (v:Nat) (aw:v<2^63) (ds:List Nat) (ax:∀ d∈ds,d<3) (aC:ds.length≤7):aT d0 155 [.int .i64 (v:Int),.int .i64 (eE ds:Int)] (.bool (jv v 0 ds)):=by
 have an:=bD;refine aT.bh ah Tryz.func155 C C fun s I=>?_
 have nw:=fun i (aR:i<64)=>J4 v i aw aR
 have cy:=FI ax;have aF:3^ds.length≤3^7:=ag2 af aC;refine fP ?_;refine ae.b5 [0] C I (σ:=Nat×List Nat) (fun q=>[(5,.int .i64 (q.1:Int)),(1,.int .i64 (eE q.2:Int))]) (fun _=>[]) (fun q=>q.1+q.2.length=ds.length∧jv v 0 ds=jv v q.1 q.2∧(∀ d∈q.2,d<3)∧eE q.2<3^7) (fun q=>q.2.length) (0,ds) ⟨af5 _,rfl,ax,by show eE ds<3^7;omega⟩ (cl C) aX ?_;rintro ⟨i,r⟩ ⟨aR,aq,aD,aB⟩ I
 try simp only at aR aq aD aB I ⊢
 refine b7 ?_;refine ae.cond C (fun m2=>?_) (fun hle=>?_);rotate_left
 ·rw [aq,Kc v r i (by simp at hle;omega)]
  refine ez ?_;exact bB I
 have m2:0<eE r:=by simpa using m2
 rcases r with _|⟨d,r⟩
 ·simp [eE] at m2
 rw [jv] at aq;have Ra:=aD d i6;have zE:eE (d::r)=d+3*eE r:=rfl;rw [g9] at aR;have nw:=nw i af;have yd:((eE (d::r):Nat):Int).tmod (aq1 (2+1))=(d:Int):=by
  show Int.tmod _ 3=_;rw [aw' af];omega
 have wd:((eE (d::r):Nat):Int).tdiv (aq1 (2+1))=(eE r:Int):=by
  show Int.tdiv _ 3=_;rw [ax0 af];omega
 rcases (by omega:d=0∨d=1∨d=2) with rfl|rfl|rfl
 ·refine bl ?_
  rw [yd];refine aa.dh 15 C ba ?_;refine bl ?_;rw [wd];skip;exact bn.mk (i+1,r) I ⟨by show i+1+r.length=_;omega,by rw [aq];simp,fun x ab=>aD x (i0 _ ab),by show eE r<3^7;omega⟩ JN aX (aj6 _)
 ·cases mf:v.testBit i with
  | true=>
   rw [mf] at nw aq;rw [aq];refine bl ?_;rw [yd];refine aa.dY 15 C ba ?_;refine b' ?_;exact bB I
  | false=>
   rw [mf] at nw aq;refine bl ?_;rw [yd];refine aa.dY 15 C ba ?_;refine b' ?_;rw [wd];skip;exact bn.mk (i+1,r) I ⟨by show i+1+r.length=_;omega,by rw [aq];simp,fun x ab=>aD x (i0 _ ab),by show eE r<3^7;omega⟩ JN aX (aj6 _)
 ·cases mf:v.testBit i with
  | true=>
   rw [mf] at nw aq;refine bl ?_;rw [yd];refine aa.dh 15 C ba ?_;refine b' ?_;rw [wd];skip;exact bn.mk (i+1,r) I ⟨by show i+1+r.length=_;omega,by rw [aq];simp,fun x ab=>aD x (i0 _ ab),by show eE r<3^7;omega⟩ JN aX (aj6 _)
  | false=>
   rw [mf] at nw aq;rw [aq];refine bl ?_;rw [yd];refine aa.dh 15 C ba ?_;refine b' ?_;exact bB I
section
variable {P:Program} {N:Nat} {ops:Array Oper} {Q:b9→Env→ao→Prop} {env:Env} {s:ao} {l:List Oper} {o:Oper} {d:Nat}
theorem aZ.quo {t yt:TypeId} {x y:Operand} {k:IntKind} {a b r:Int} (ai:o.op = .binOp .quo t x y yt) (ab:aM env x=some (.int k a)) (ay:aM env y=some (.int k b)) (an:b≠0) (aD:k.wrap (a.tdiv b)=r) :
  aZ P N o env s (fun x aj=>x = .int k r∧aj=s) (fun _ _=>False):=by
 refine aZ.m0 iW fun ro B c7 w p aI=>?_
 have U:=aI.aM ab;have ad:=aI.aM ay;generalize ep:c7.eval x=dR at U;generalize e9:c7.eval y=fW at ad;cases U;cases ad;refine tt (v := .int k r) ai ?_ ?_ (.int _ _)
 ·rw [ep,e9];unfold eqGuard;simp
 ·rw [ep,e9]
  simp only [binOp,ne_eq,not_true_eq_false,ah',Op.intDiv,an,aD];rfl
theorem aa.quo {t yt:TypeId} {x y:Operand} {k:IntKind} {a b r:Int} (av:guardOf ops env o=some true) (ax:o.dst=some d) (aU:t8 d N=true) (ai:o.op = .binOp .quo t x y yt) (ab:aM env x=some (.int k a)) (ay:aM env y=some (.int k b)) (an:b≠0) (aD:k.wrap (a.tdiv b)=r)
  (h:aa P N ops l Q ((d,.int k r)::env) s):aa P N ops (o::l) Q env s:=
 aa.op av ax aU (aZ.quo ai ab ay an aD) (fun x aj ⟨U,ad⟩=>by subst U;subst ad;exact h) (fun _ _ h=>h.elim)
end
section
variable {P:Program} {Γ:cA} {N:Nat} {Q:b9→Env→ao→Prop} {env:Env} {s:ao} {l rest:List Oper} {o:Oper} {d i:Nat}
theorem aK.ab7 {L:a'} (I:Ok s L) {t:TypeId} {x:Operand} {v:ag} {cs:List ag} (av:c6 l env o) (ax:o.dst=some d) (aU:t8 d N=true) (aD:eJ l.toArray (2^i-1) (idxs 0 l)=[i])
  (b3:o.op = .box t x) (ab:aM (b4 l env o) x=some v) (aB:cellsOf v=some cs)
  (h:∀ b,Ok s ((.own b,.box t cs)::L)→aK kH P Γ N l (i+1) rest Q ((d,.ptr b 0)::env) (aS s ((.own b,.box t cs)::L))):aK kH P Γ N l i (o::rest) Q env (aS s L):=
 aK.xb av ax aU aD (aZ.jC I b3 ab aB (X:=fun _ _=>False)) (fun _ _ _=>trivial) (fun x aj ⟨b,U,ad,al⟩=>by subst U;subst ad;exact h b al) (fun _ _ h=>h.elim)
end
def lS:bW→ag
 | .leaf ms => .bw [.bool false,.int .i64 (-1),.mu,.mu,bd ms,.int .i64 0,.int .i64 1] 0
 | .test i a b => .bw [.bool false,.int .i64 (i:Int),lS a,lS b,.aA 0 [] .nil,.int .i64 ((1+max a.gZ b.gZ:Nat):Int),.int .i64 ((a.leaves+b.leaves:Nat):Int)] 0
theorem uv (t:bW):∃ a b c d,lS t = .bw [.bool false,a,b,c,d,.int .i64 (t.gZ:Int),.int .i64 (t.leaves:Int)] 0:=by
 cases t<;>exact ⟨_,_,_,_,rfl⟩
def Kh:Option bW→ag
 | none => .mu
 | some t=>lS t
theorem ab8 (x y:bW):aT d0 192 [lS x,lS y] (.bool (x.before y)):=by
 obtain ⟨dE,ho,cu,d1,b2⟩:=uv x;obtain ⟨a2,cT,cL,d2,bU⟩:=uv y;refine aT.bh ah Tryz.func192 C C fun s I=>?_
 rw [b2,bU];unfold bW.before;by_cases U:x.gZ<y.gZ
 ·rw [i7 U,ak3]
  refine b' ?_;refine aK.split 14 C (fun _=>?_) (fun h=>absurd h cV);refine hi ?_;exact bB I
 rw [ab' U,ag6];refine b' ?_;refine aK.split 14 C (fun h=>absurd h cV) (fun _=>?_);refine jF ?_;by_cases ad:x.gZ=y.gZ
 ·rw [i7 ad,f5]
  refine aK.split 24 C (fun _=>?_) (fun h=>absurd h cV);refine hi ?_;exact Fin.cB I C (aQ.of_eq (ae7 ag.bool ba))
 ·rw [ab' ad,f9]
  refine aK.split 24 C (fun h=>absurd h cV) (fun _=>?_);refine hi ?_;exact bB I
def CG (A:Nat) (vs:List Nat) (h:Nat→List Int) (cb N:Nat):List ag:=[.int .i64 (A:Int),.aA 1 (ic vs) .bb,.aA 1 ((vs.map h).map bd) .bb,ee cb N N]
def vR (A:Nat) (vs:List Nat) (h:Nat→List Int) (cb N:Nat):ag := .bw (CG A vs h cb N) 0
def uw (cb:Nat) (F:List ag):a':=[(.own cb,.box 170 F)]
structure vS (A:Nat) (vs:List Nat) (h:Nat→List Int) (N:Nat) (F:List ag):Prop where
 len:F.length=N
 each:∀ ds:List Nat,ds.length=A→(∀ d∈ds,d<3)→F[eE ds]? = some .mu∨F[eE ds]? = some (lS (eL A h (behind vs ds)))
theorem Rb (ds:List Nat):∀ vs:List Nat,(!(behind vs ds).isEmpty)=vs.any fun v=>jv v 0 ds
  | []=>rfl
  | v::r=>by
    have a1:=Rb ds r;unfold behind at *;rw [ah9,aj8];cases jv v 0 ds with
    | true=>rfl
    | false=>rw [f0 ba,a1,ag6]
structure ux (A:Nat) (vs:List Nat) (h:Nat→List Int) (N:Nat):Prop where
 ja:A≤7
 pow:N=3^A
 lt:∀ v∈vs,v<2^A
 Ki:vs.length≤128
 ms:∀ v,(h v).length≤16
theorem ux.Rc {A:Nat} {vs:List Nat} {h:Nat→List Int} {N:Nat} (ar:ux A vs h N):∀ v∈vs,v<2^63:=fun v aw=>by
 have U:=ar.lt v aw;have ad:2^A≤2^7:=ag2 af ar.ja;omega
theorem ux.code {A:Nat} {vs:List Nat} {h:Nat→List Int} {N:Nat} (ar:ux A vs h N) {ds:List Nat} (aC:ds.length=A) (ax:∀ d∈ds,d<3):eE ds<N∧N≤2187:=by
 have U:=FI ax;have ad:3^A≤3^7:=ag2 af ar.ja;rw [aC,← ar.pow] at U;rw [ar.pow];rw [ar.pow] at U;exact ⟨U,by omega⟩
theorem ab9 {A:Nat} {vs:List Nat} {h:Nat→List Int} {N:Nat} (ar:ux A vs h N) (cb:Nat) (ds:List Nat) (aC:ds.length=A) (ax:∀ d∈ds,d<3):aT d0 191 [vR A vs h cb N,.int .i64 (eE ds:Int)] (.bool (!(behind vs ds).isEmpty)):=by
 have an:=bD;have aca:=ar.Ki;have sh:=ar.ja;have a7:=fun v (aw:v∈vs)=>Q' v (ar.Rc v aw) ds ax af
 rw [Rb];refine aT.bh ah Tryz.func191 C C fun s I=>?_
 unfold vR CG ic;refine fP ?_;refine ae.b5 [0,1] C I (σ:=Nat) (fun j=>[(5,.int .i64 (j:Int))]) (fun _=>[]) (fun j=>j≤vs.length∧(vs.any fun v=>jv v 0 ds)=(vs.drop j).any fun v=>jv v 0 ds) (fun j=>vs.length-j) 0 ⟨g7 _,rfl⟩ (cl C) aX ?_;rintro j ⟨aL,aq⟩ I
 try simp only at aL aq I ⊢
 refine b7 ?_;refine ae.cond C (fun au=>?_) (fun aV=>?_);rotate_left
 ·have aV:j=vs.length:=by simp at aV;omega
  rw [eD af,aA6] at aq;rw [aq];refine ez ?_;exact bB I
 have au:j<vs.length:=by simpa using au
 obtain ⟨v,aw,m4⟩:=b8 (f:=fun v:Nat=>ag.int .i64 (v:Int)) au;have a7:=a7 v (d5 aw);rw [drop_cons aw,aj8] at aq;cases aB:jv v 0 ds with
 | true=>
  rw [aB] at a7 aq;rw [aq];refine b' ?_;exact bB I
 | false=>
  rw [aB] at a7 aq;refine b' ?_;exact bn.mk (j+1) I ⟨au,aq⟩ cj aX qU
def Re (A:Nat) (vs:List Nat) (h:Nat→List Int) (cb N:Nat) (k:Nat):Prop:=
 ∀ ds:List Nat,ds.length=A→(∀ d∈ds,d<3)→my ds<k→behind vs ds≠[]→∀ F,vS A vs h N F →
  bA d0 115 [vR A vs h cb N,.int .i64 (eE ds:Int)] (uw cb F) (fun o K=>o = .ret (lS (eL A h (behind vs ds)))∧∃ CH,vS A vs h N CH∧K=uw cb CH)
theorem FJ {ds:List Nat} (ax:∀ d∈ds,d<3) (j:Nat) {e:Nat} (he:e<3):∀ d∈ds.set j e,d<3:=fun d h=>by
 rcases aj7 h with h|rfl
 ·exact ax d h
 ·exact he
theorem Rf {A:Nat} {vs:List Nat} {h:Nat→List Int} {N:Nat} (ar:ux A vs h N) (ds:List Nat):(eL A h (behind vs ds)).leaves≤128∧(eL A h (behind vs ds)).gZ<128:=by
 have U:=vw A h _ (behind vs ds) (g8 _);have ad:=(eL A h (behind vs ds)).BX;have al:(behind vs ds).length≤vs.length:=aj2 _ _;have bf:=ar.Ki;omega
theorem acb {A:Nat} {vs:List Nat} {h:Nat→List Int} {N:Nat} (ar:ux A vs h N) (cb k:Nat) (a1:Re A vs h cb N k) (ds:List Nat) (aC:ds.length=A) (ax:∀ d∈ds,d<3) (bG:my ds≤k) (kt:lq h (behind vs ds)=false) (F:List ag) (gG:vS A vs h N F) :
  bA d0 156 [vR A vs h cb N,.int .i64 (eE ds:Int)] (uw cb F) (fun o K=>o = .ret (lS (eL A h (behind vs ds)))∧∃ CH,vS A vs h N CH∧K=uw cb CH):=by
 have an:=bD;have sh:=ar.ja;obtain ⟨mi,sK⟩:=ar.code aC ax;have p4:=fun j (aL:j≤7)=>Q9 j aL
 have Rg:∀ j,j≤7→3^j≤3^7:=fun j aL=>ag2 af aL
 have h3:=fun ds aC ax=>ab9 ar cb ds aC ax
 obtain ⟨o,ai⟩:=OJ (A:=A) (h:=h) (vs:=behind vs ds) (fun v aw=>ar.lt v (ah6.1 aw).1) kt (eL A h);have n8:=BW A h (behind vs ds);rw [f0 (by rw [kt];simp),ai,af9] at n8;refine bA.bh ah Tryz.func156 C C fun s I=>?_
 unfold vR CG at *;refine fP ?_;refine ae.b5 [0,1] C I (σ:=Nat×List ag) (fun q=>[(6,.int .i64 (q.1:Int)),(5,Kh ((ag3 q.1).foldl (jX (eL A h) (behind vs ds)) none))]) (fun q=>uw cb q.2) (fun q=>q.1≤A∧vS A vs h N q.2) (fun q=>A-q.1) (0,F) ⟨g7 _,gG⟩ (cl C) (aG.all _) ?_;rintro ⟨j,ye⟩ ⟨aL,uy⟩ I
 try simp only at aL uy I ⊢
 refine b7 ?_;refine ae.cond C (fun au=>?_) (fun aV=>?_);rotate_left
 ·have aV:j=A:=by simp at aV;omega
  subst aV;rw [ai];refine ez ?_;exact Fin.bs I C aJ (aG.all _) ⟨by rw [n8];rfl,ye,uy,rfl⟩
 have au:j<A:=by simpa using au
 obtain ⟨d,p2⟩:∃ d,ds[j]? = some d:=⟨_,f7 af⟩;have Ra:=ax d (d5 p2);have zE:=Q8 ax p2;have p4:=p4 j af;have Rg:=Rg j af;have MY:3^j≠0:=by have:=Nat.pow_pos (a:=3) (n:=j) af;omega
 have acd:=fun bq:ds[j]? = some 0=>Kd (d:=1) bq
 have ace:=fun bq:ds[j]? = some 0=>Kd (d:=2) bq
 have aI:(ag3 (j+1)).foldl (jX (eL A h) (behind vs ds)) none=jX (eL A h) (behind vs ds) ((ag3 j).foldl (jX (eL A h) (behind vs ds)) none) j:=by rw [aq2,ao0];rfl
 have dn:∀ out,jX (eL A h) (behind vs ds) out j=if (fu j (behind vs ds)).isEmpty||(fw j (behind vs ds)).isEmpty then out else rU out (.test j (eL A h (fw j (behind vs ds))) (eL A h (fu j (behind vs ds)))):=fun _=>rfl
 generalize 3^j=e at *;generalize (ag3 j).foldl (jX (eL A h) (behind vs ds)) none=out at *;have adE:eE ds / e≤eE ds:=Nat.div_le_self _ _;generalize br:eE ds / e=q at *;have aew:t7 .i64 (((eE ds:Nat):Int).tdiv ((e:Nat):Int))=((q:Nat):Int):=by
  rw [ax0 af,← Int.natCast_ediv,br,dz af af]
 have yd:((q:Nat):Int).tmod (aq1 (2+1))=(d:Int):=by
  show Int.tmod _ 3=_;rw [aw' af];omega
 have dm:t7 .i64 (((eE ds:Nat):Int)+((e:Nat):Int))=((eE ds+1*e:Nat):Int):=by rw [dz af af];push_cast;omega
 have jG:t7 .i64 (((eE ds:Nat):Int)+t7 .i64 (2*((e:Nat):Int)))=((eE ds+2*e:Nat):Int):=by rw [dz (n:=2*((e:Nat):Int)) af af,dz af af];push_cast;omega
 refine c2 ?_;rw [dm,jG];refine aa.quo C C C C C C af aew ?_;refine bl ?_;rw [yd];by_cases lU:d=0;rotate_left
 ·rw [dn,g6 (ab6 (vs:=vs) p2 lU Ra)] at aI
  refine aa.dY 35 C cV ?_;refine bl ?_;exact bn.mk (j+1,ye) I ⟨au,uy⟩ JO (aG.all _) zN
 subst lU;have acf:=ab4 (vs:=vs) p2;have acg:=ab5 (vs:=vs) p2;have lC:(ds.set j 1).length=A:=by rw [af1];exact aC
 have eT:(ds.set j 2).length=A:=by rw [af1];exact aC
 have s1:=h3 _ lC (FJ ax j af);have s2:=h3 _ eT (FJ ax j af);have t1:=fun F h=>a1 _ lC (FJ ax j af) (by have:=Kg (d:=1) p2 af;omega) F h
 have t2:=fun F h=>a1 _ eT (FJ ax j af) (by have:=Kg (d:=2) p2 af;omega) F h
 have ea:=Rf ar (ds.set j 1);have dj:=Rf ar (ds.set j 2);rw [acf] at ea s1 t1;rw [acg] at dj s2 t2;rw [acd p2] at s1 t1;rw [ace p2] at s2 t2;refine aa.dh 35 C ba ?_;cases b2:(fw j (behind vs ds)).isEmpty with
 | true=>
  rw [b2] at s1;rw [dn,b2,ap2,g6 C] at aI;refine b' ?_;exact bn.mk (j+1,ye) I ⟨au,uy⟩ JO (aG.all _) zN
 | false=>
 rw [b2] at s1;cases bU:(fu j (behind vs ds)).isEmpty with
 | true=>
  rw [bU] at s2;rw [dn,bU,ak3,g6 C] at aI;refine b' ?_;exact bn.mk (j+1,ye) I ⟨au,uy⟩ JO (aG.all _) zN
 | false=>
 rw [bU] at s2;rw [dn,b2,bU,f0 ba] at aI;have t1:=t1 (by intro h;rw [h] at b2;cases b2);have t2:=t2 (by intro h;rw [h] at bU;cases bU);generalize om:eL A h (fw j (behind vs ds))=ky at *;generalize IM:eL A h (fu j (behind vs ds))=j0 at *;obtain ⟨dE,ho,cu,d1,oA⟩:=uv ky;obtain ⟨a2,cT,cL,d2,sU⟩:=uv j0;have ach:t7 .i64 ((ky.leaves:Int)+(j0.leaves:Int))=((ky.leaves+j0.leaves:Nat):Int):=by rw [dz af af];push_cast;rfl
 have P':lS (.test j ky j0) = .bw [.bool false,.int .i64 (j:Int),.bw [.bool false,dE,ho,cu,d1,.int .i64 (ky.gZ:Int),.int .i64 (ky.leaves:Int)] 0,.bw [.bool false,a2,cT,cL,d2,.int .i64 (j0.gZ:Int),.int .i64 (j0.leaves:Int)] 0,.aA 0 [] .nil,.int .i64 ((1+max ky.gZ j0.gZ:Nat):Int),.int .i64 ((ky.leaves+j0.leaves:Nat):Int)] 0:=by rw [lS,oA,sU]
 rw [oA] at t1;rw [sU] at t2;refine c2 ?_;refine aa.bX rfl rfl rfl rfl rfl (t1 ye uy) I aX ?_ (fun _ _ ⟨h,_⟩ _=>by cases h);rintro _ _ ⟨⟨⟩,aes,aci,rfl⟩ I;rw [d6] at I ⊢;refine dU ?_;refine aa.bX rfl rfl rfl rfl rfl (t2 aes aci) I aX ?_ (fun _ _ ⟨h,_⟩ _=>by cases h);rintro _ _ ⟨⟨⟩,Kj,Kk,rfl⟩ I;rw [d6] at I ⊢;refine fI ?_;refine ae.uY ah mixed C ?_;refine c2 ?_;have vt:t7 .i64 (1+if (j0.gZ:Int)>(ky.gZ:Int) then (j0.gZ:Int) else (ky.gZ:Int))=((1+max ky.gZ j0.gZ:Nat):Int):=by
  rw [dz va va];split<;>omega
 rw [ach,vt];rcases out with _|o
 ·rw [show rU none (.test j ky j0)=some (.test j ky j0) from rfl] at aI
  unfold Kh;refine bl ?_;exact bn.mk (j+1,Kj) I ⟨au,Kk⟩ P9 (aG.all _) zN
 ·obtain ⟨a3,na,dT,d3,x9⟩:=uv o
  have j7:=ab8 (.test j ky j0) o;rw [P',x9] at j7;rw [show Kh (some o)=lS o from rfl,x9];cases jQ:(bW.test j ky j0).before o with
  | true=>
   rw [jQ] at j7;rw [show rU (some o) (.test j ky j0)=if (bW.test j ky j0).before o then some (.test j ky j0) else some o from rfl,jQ,g6 C] at aI;refine b' ?_;exact bn.mk (j+1,Kj) I ⟨au,Kk⟩ P9 (aG.all _) zN
  | false=>
   rw [jQ] at j7;rw [show rU (some o) (.test j ky j0)=if (bW.test j ky j0).before o then some (.test j ky j0) else some o from rfl,jQ,f0 ba] at aI;refine b' ?_;exact bn.mk (j+1,Kj) I ⟨au,Kk⟩ (by repeat (first|exact trivial|refine ⟨⟨_,rfl,aJ⟩,?_⟩|refine ⟨⟨_,rfl,aQ.of_eq (by (first|rw [h7 af]|(rw [aI];exact x9.symm)))⟩,?_⟩)) (aG.all _) zN
theorem Rh:∀ {a b:List Nat},a.length=b.length→(∀ d∈a,d<3)→(∀ d∈b,d<3)→eE a=eE b→a=b
  | [],[],_,_,_,_=>rfl
  | x::a,y::b,aC,a6,an,h=>by
    have U:=a6 x i6;have ad:=an y i6;rw [eE,eE] at h;have al:x=y:=by omega
    have bf:=Rh (a:=a) (b:=b) (by simpa using aC) (fun d ax=>a6 d (i0 _ ax)) (fun d ax=>an d (i0 _ ax)) af;rw [al,bf]
theorem vS.put {A:Nat} {vs:List Nat} {h:Nat→List Int} {N:Nat} {F:List ag} (gG:vS A vs h N F) {ds:List Nat} (aC:ds.length=A) (ax:∀ d∈ds,d<3) (aB:eE ds<N):vS A vs h N (F.set (eE ds) (lS (eL A h (behind vs ds)))):=by
 refine ⟨by rw [af1];exact gG.len,fun es dC he=>?_⟩;by_cases e:eE ds=eE es
 ·have:=Rh af ax he e
  subst this;exact .inr (aj9 (by rw [gG.len];exact aB))
 ·rw [an8 e];exact gG.each es dC he
theorem acj (h:Nat→List Int) (u:Nat) (r:List Nat) (v:Nat):lq h (u::(r++[v]))=(lq h (u::r)&&(h v==h u)):=by
 show (r++[v]).all _=(r.all _&&_);rw [List.all_append,ak6,ao3,aq5]
def FK:Option Nat→Int
 | none => -1
 | some f=>(f:Int)
def ack (vs ws:List Nat):Option Nat→Prop
 | none=>ws=[]
 | some f=>∃ u r,ws=u::r∧vs[f]? = some u
theorem Ri {A:Nat} {vs:List Nat} {h:Nat→List Int} {N:Nat} (ar:ux A vs h N) (cb:Nat):∀ k,Re A vs h cb N k
  | 0=>fun ds _ _ bG=>absurd bG (an2 _)
  | k+1=>by
    intro ds aC ax bG cJ F gG;have an:=bD;have sh:=ar.ja;have aca:=ar.Ki;obtain ⟨mi,sK⟩:=ar.code aC ax;have aN:=fun kt=>acb ar cb k (Ri ar cb k) ds aC ax (Nat.le_of_lt_succ bG) kt F gG
    have p5:=fun v (aw:v∈vs)=>Q' v (ar.Rc v aw) ds ax af
    have x':=fun u v=>u4 (h u) (h v) (by have:=ar.ms u;omega) (by have:=ar.ms v;omega)
    have n8:=BW A h (behind vs ds);have mE:=gG.put aC ax mi;refine bA.bh ah Tryz.func115 C C fun s I=>?_
    unfold vR CG ic uw at *;refine dt ?_;refine aa.ej ah (eE ds) C C C C C C C C C C mi ?_;rcases gG.each ds aC ax with fA|fA;rotate_left
    · obtain ⟨dE,ho,cu,d1,b2⟩:=uv (eL A h (behind vs ds))
      rw [b2] at fA;refine aa.jd ah I C C C C C C aW C (by rw [ag'];exact fA) ?_;refine bl ?_;refine aa.ej ah (eE ds) C C C C C C C C C C mi ?_;refine aa.jd ah I C C C C C C aW C (by rw [ag'];exact fA) ?_;refine ed ?_;exact Fin.bs I C aJ (aG.all _) ⟨by rw [b2],F,gG,rfl⟩
    refine aa.jd ah I C C C C C C aW C (by rw [ag'];exact fA) ?_;refine bl ?_;refine ae.b5 [0,1] C I (σ:=Nat×Option Nat) (fun q=>[(7,.int .i64 (q.1:Int)),(5,.int .i64 (FK q.2)),(6,.bool (lq h (behind (vs.take q.1) ds)))]) (fun _=>[(.own cb,.box 170 F)]) (fun q=>q.1≤vs.length∧ack vs (behind (vs.take q.1) ds) q.2) (fun q=>vs.length-q.1) (0,none) ⟨g7 _,rfl⟩ (cl C) (aG.all _) ?_;rintro ⟨j,Fu⟩ ⟨aL,k4⟩ I
    try simp only at aL k4 I ⊢
    refine b7 ?_;refine ae.cond C (fun au=>?_) (fun aV=>?_)
    · have au:j<vs.length:=by simpa using au
      obtain ⟨v,aw,m4⟩:=b8 (f:=fun v:Nat=>ag.int .i64 (v:Int)) au;have p5:=p5 v (d5 aw);have acm:((vs.map h).map bd)[j]? = some (bd (h v)):=by rw [ae4,ae4,aw];rfl
      have aI:behind (vs.take (j+1)) ds=behind (vs.take j) ds++(if jv v 0 ds then [v] else []):=by
        unfold behind;rw [il aw,ao7,ah9];rfl
      generalize behind (vs.take j) ds=ws at *;unfold bd at acm x';cases aB:jv v 0 ds with
      | false=>
        rw [aB] at p5;rw [aB,f0 ba,d6] at aI;refine b' ?_;exact bn.mk (j+1,Fu) I ⟨au,by rw [aI];exact k4⟩ JP (aG.all _) qU
      | true=>
        rw [aB] at p5;rw [aB,g6 C] at aI;cases Fu with
        | none=>
          have ui:ws=[]:=k4;subst ui;have mz:=x' v v;rw [show (h v==h v)=true from beq_iff_eq.2 C] at mz;rw [d8] at aI;unfold FK;rw [show lq h []=true from rfl];refine b' ?_;exact bn.mk (j+1,some j) I ⟨au,v,[],aI,aw⟩ (by repeat (first|exact trivial|refine ⟨⟨_,rfl,aJ⟩,?_⟩|refine ⟨⟨_,rfl,aQ.of_eq (by (first|rw [h7 af]|(rw [aI];rfl)|rfl))⟩,?_⟩)) (aG.all _) qU
        | some f=>
          obtain ⟨u,r,ui,CI⟩:=k4;subst ui;have acn:((vs.map h).map fun l=>ag.aA 1 (l.map a8) .bb)[f]? = some (.aA 1 ((h u).map a8) .bb):=by rw [ae4,ae4,CI];rfl
          have mz:=x' v u;have pC:lq h (behind (vs.take (j+1)) ds)=(lq h (u::r)&&(h v==h u)):=by rw [aI,aa',acj]
          unfold FK;cases g1:lq h (u::r) with
          | false=>
            rw [g1,f9] at pC;refine b' ?_;exact bn.mk (j+1,some f) I ⟨au,u,r++[v],aI,CI⟩ Qa (aG.all _) qU
          | true=>
            rw [g1,f5] at pC;refine b' ?_;exact bn.mk (j+1,some f) I ⟨au,u,r++[v],aI,CI⟩ Qa (aG.all _) qU
    have aV:j=vs.length:=by simp at aV;omega
    subst aV;rw [ae5] at k4 ⊢;rcases Fu with _|f
    · exact absurd k4 cJ
    obtain ⟨u,r,ui,CI⟩:=k4;unfold FK bd;rw [ui] at n8 aN mE ⊢;cases kt:lq h (u::r) with
    | true=>
      rw [kt,g6 C,show firstM h (u::r)=h u from rfl] at n8;rw [n8] at mE ⊢
      repeat (first|(refine Un ?_)|refine aa.jC I C C C C C C (fun b I=>?_)|(refine Lz ?_))
      have acn:((vs.map h).map fun l=>ag.aA 1 (l.map a8) .bb)[f]? = some (.aA 1 ((h u).map a8) .bb):=by rw [ae4,ae4,CI];rfl
      refine aa.idx ah _ C C C C C C C C C C C cx C ?_;refine cv C ?_;refine cv C ?_;refine cv C ?_;refine aa.cK ah I C C C C C C C C C .here b1 (fun I=>?_);refine aa.nil ?_
      repeat (with_reducible first|apply b0|apply fh|apply ae.seq)
      refine ae.l5 I 8 b C .here (fun I=>?_);refine jE ?_;refine aa.ej ah (eE ds) C C C C C C C C C C mi ?_;refine aa.hQ ah I (F.set (eE ds) (lS (.leaf (h u)))) C C C C C C C C C aW (by rw [gG.len];show eE ds*1+1≤_;omega) (by rw [mQ,ag'];rfl) (fun I=>?_);refine ed ?_;exact Fin.bs I C aJ (aG.all _) ⟨rfl,_,mE,rfl⟩
    | false=>
      have aN:=aN kt;refine bl ?_;refine aa.bX rfl rfl rfl rfl rfl aN I aX ?_ (fun _ _ ⟨h,_⟩ _=>by cases h);rintro _ _ ⟨⟨⟩,ye,uy,rfl⟩ I;have mE:=uy.put aC ax mi;rw [ui] at mE;obtain ⟨dE,ho,cu,d1,b2⟩:=uv (eL A h (u::r));rw [b2] at mE ⊢;simp only [aa',d8] at I ⊢;refine fI ?_;refine aa.ej ah (eE ds) C C C C C C C C C C mi ?_;refine aa.hQ ah I (ye.set (eE ds) _) C C C C C C C C C aW (by rw [uy.len];show eE ds*1+1≤_;omega) (by rw [mQ,ag']) (fun I=>?_);refine ed ?_;exact Fin.bs I C aJ aX ⟨rfl,_,mE,rfl⟩
theorem aco (p:bT) (aF:ga p) (dk:gA p=true) (n:Int) (fq:(ct p n).length≤7) (v:Nat) (aw:v<2^63):aT d0 83 [cW p,.int .i64 n,.int .i64 (v:Int)] (bd (dp p n (ct p n) v)):=by
 have an:=bD;obtain ⟨vG,PE⟩:=uk dk;have U:=Fy p aF dk n;have cX:=(JD dk n).1;have ad:=fun f h=>ab3 (ca p) (ct p n) fq cX v aw f.size f (g8 _) h
 generalize ct p n=l at *;refine aT.bh ah Tryz.func83 C C fun s I=>?_
 unfold cW cZ bd dd at *;refine b' ?_;refine ae.h0 I 3 1 0 fun I=>?_
 refine ae.b5 [1,2,3,7] C I (σ:=Nat×List Int×bN) (fun q=>[(9,.int .i64 (q.1:Int)),(8,.aA 1 (q.2.1.map a8) q.2.2)]) (fun q=>[(q.2.2,.row 3 1 q.2.1.length)]) (fun q=>q.1≤p.methods.length∧q.2.1.length≤q.1∧dp p n l v=q.2.1++rT n l v q.1 (p.methods.drop q.1)) (fun q=>p.methods.length-q.1) (0,[],.nil)
  ⟨g7 _,g8 _,rfl⟩ ⟨⟨_,rfl,aJ⟩,⟨_,rfl,aQ.nil gN⟩,trivial⟩ (aG.dB _) ?_
 rintro ⟨j,out,gl⟩ ⟨aL,fZ,aq⟩ I;simp only at aL fZ aq I ⊢;refine b7 ?_;refine ae.cond C (fun au=>?_) (fun aV=>?_);rotate_left
 ·have aV:j=p.methods.length:=by simp at aV;omega
  rw [eD af,rT,d6] at aq;rw [aq];refine ez ?_;exact Fin.cB I C aQ.bb
 have au:j<p.methods.length:=by simpa using au
 obtain ⟨m,ab,bL⟩:=b8 (f:=lM) au;have fH:=d5 ab;rw [drop_cons ab,rT] at aq;unfold lM n2 at bL;by_cases av:m.gen=n
 ·have cY:=ad m.fact (sr _ _ _ _ (Ch dk fH))
  rw [ak.b6] at cY;unfold ak.cells at cY;rw [av] at bL aq;rw [show decide (n=n)=true by simp,f5] at aq;refine dG ?_;refine aa.dY 28 C ba ?_;cases m7:p0 l v m.fact with
  | true=>
   rw [m7] at cY;rw [m7,g6 C] at aq;refine c2 ?_;refine aa.fO ah I C C C C C C C di C C C C C C C C aW gY jS af (fun bR I=>?_);refine fj ?_;exact bn.mk (j+1,out++[(j:Int)],.own bR) I ⟨au,by simp;omega,by rw [aq];simp⟩ yK (by show aG _ [(_,.row _ _ (out++[(j:Int)]).length)] _;rw [f6];exact aG.dB _) o9
  | false=>
   rw [m7] at cY;rw [m7,f0 ba] at aq;refine b' ?_;exact bn.mk (j+1,out,gl) I ⟨au,by show out.length≤j+1;omega,aq⟩ cj (aG.dB _) o9
 ·rw [show decide (m.gen=n)=false by simpa using av,f9,f0 ba] at aq
  refine dG ?_;refine aa.dh 28 C (by simpa using av) ?_;refine bl ?_;exact bn.mk (j+1,out,gl) I ⟨au,by show out.length≤j+1;omega,aq⟩ cj (aG.dB _) o9
theorem acp (p:bT) (aF:ga p) (n:Int):aT d0 64 [cW p,.int .i64 n] (JQ p n):=by
 have an:=bD;refine aT.bh ah Tryz.func64 C C fun s I=>?_
 have U:=XD p aF;have ad:=ab1 p n;have al:=fun h=>Fy p aF h n
 have he:hy p n=if gA p&&pZ p n then (if (ct p n).length≤7 then 0 else 3) else 2:=rfl
 unfold JQ;cases dk:gA p with
 | false=>
  rw [dk] at U;rw [dk,f9,f0 ba] at he;rw [he,f0 du];unfold cW cZ at *;refine b' ?_;exact bB I
 | true=>
 rw [dk] at U;rw [dk,f5] at he;cases FL:pZ p n with
 | false=>
  rw [FL] at ad;rw [FL,f0 ba] at he;rw [he,f0 du];unfold cW cZ at *;refine b' ?_;exact bB I
 | true=>
 rw [FL] at ad;rw [FL,g6 C] at he;have al:=al dk;unfold cW cZ dd at *;refine b' ?_;refine ae.cond C (fun h=>?_) (fun h=>?_)
 ·rw [f0 (by simp at h;omega)] at he
  rw [he,f0 du];refine gX ?_;exact bB I
 ·rw [g6 (by simp at h;omega)] at he
  rw [he,g6 C];refine bl ?_;exact bB I
theorem acq (p:bT) (aF:ga p) (dk:gA p=true) (n:Int) (fq:(ct p n).length≤7):bA d0 114 [cW p,.int .i64 n] [] (fun o K=>∃ cb,o = .ret (vR (ct p n).length (hF (ca p) (ct p n)) (dp p n (ct p n)) cb (3^(ct p n).length))∧K=uw cb (List.replicate (3^(ct p n).length) .mu)):=by
 have an:=bD;have U:=Fy p aF dk n;have ad:=ab2 p aF dk n fq;have adF:2^(ct p n).length≤2^7:=ag2 af fq;have fC:=Cq (ca p) (ct p n);have al:=fun v (aw:v∈hF (ca p) (ct p n))=>aco p aF dk n fq v (by have:=Fi aw;omega)
 have bf:=Q9 (ct p n).length fq;have aU:3^(ct p n).length≤3^7:=ag2 af fq;generalize hF (ca p) (ct p n)=vs at *;generalize dp p n (ct p n)=h at *;have kt:((ct p n).map ak.bK).length=(ct p n).length:=d9 _;generalize 3^(ct p n).length=N at *;generalize ct p n=l at *;refine bA.bh ah Tryz.func114 C C fun s I=>?_
 unfold cW cZ dd ic at *;unfold vR CG uw ic;refine b7 ?_;refine ae.uY ah mixed C ?_;refine aK.step C ?_;refine aK.step C ?_;refine aK.ec C C C C C cx ?_;refine aK.step C ?_;refine aK.step C ?_;refine aK.step C ?_;refine aK.ec C C C C C cx ?_;refine aK.step C ?_;refine aK.ab7 I C C C C C C C (fun FM I=>?_);rw [kt] at I ⊢;refine aK.step C ?_;refine aK.nil ?_
 repeat (with_reducible first|apply b0|apply fh|apply ae.seq)
 refine ae.h0 I 23 1 0 fun I=>?_
 refine ae.qM I [.int .i64 (l.length:Int),.aA 1 (vs.map fun v:Nat=>ag.int .i64 (v:Int)) .bb,.aA 1 [] .nil,.aA 0 [] .nil] (kb:=FM) aW (.cons aJ (.cons aJ (.cons (aQ.nil gN) (.one aJ)))) (fun I=>?_);refine fP ?_;refine ae.b5 [0,1,2,5] C I (σ:=Nat×bN) (fun q=>[(6,.int .i64 (q.1:Int))]) (fun q=>[(.own FM,.box 214 [.int .i64 (l.length:Int),.aA 1 (vs.map fun v:Nat=>ag.int .i64 (v:Int)) .bb,.aA 1 (((vs.take q.1).map h).map bd) q.2,.aA 0 [] .nil]),(q.2,.row 23 1 q.1)]) (fun q=>q.1≤vs.length) (fun q=>vs.length-q.1) (0,.nil) (g7 _) (cl C) (aG.all _) ?_;rintro ⟨j,gl⟩ aL I
 try simp only at aL I ⊢
 refine cC I ?_;intro I;refine ae.cond C (fun au=>?_) (fun aV=>?_);rotate_left
 ·have aV:j=vs.length:=by simp at aV;omega
  subst aV;rw [ae5] at I ⊢;refine cC I ?_;intro I;refine aa.rC ah I N C C C C C C C C C C C C (by show _*8≤_;omega) af (fun B8 I=>?_);refine cv C ?_;refine cv C ?_;refine aa.cK ah I C C C C C C C C C aW b1 (fun I=>?_);refine aa.nil ?_
  repeat (with_reducible first|apply b0|apply fh|apply ae.seq)
  refine ae.l5 I 5 FM C aW (fun I=>?_);refine gX ?_;exact Fin.bs I C (aQ.bw (.cons aJ (.cons aJ (.cons aQ.bb (.one aJ))))) aX ⟨B8,rfl,rfl⟩
 have au:j<vs.length:=by simpa using au
 obtain ⟨v,aw,m4⟩:=b8 (f:=fun v:Nat=>ag.int .i64 (v:Int)) au;have al:=al v (d5 aw);have aI:((vs.take (j+1)).map h).map bd=((vs.take j).map h).map bd++[bd (h v)]:=by rw [il aw];simp
 have gW:j=(((vs.take j).map h).map bd).length:=by rw [d9,d9,ae8];omega
 refine dG ?_;refine ae.nf (dc [(FM,_)]) ah mixed C (bg.run (dc.one (bo.get aW I)) C ?_);refine bg.ni 4 ah (dc.one (bo.get aW I)) C C C C C C C C (fun _ h=>dc.fst h) b1 ?_;refine bg.run (dc.one (bo.get aW I)) C ?_;refine bg.ni 10 ah (dc.one (bo.get aW I)) C C C C C C C C (fun _ h=>dc.fst h) b1 ?_;refine bg.run (dc.one (bo.get aW I)) C ?_;refine bg.idx (dc.one (bo.get aW I)) 12 j C C C C C C C C C C C C C m4 C ?_;refine bg.run (dc.one (bo.get aW I)) C ?_;refine bg.AJ (i:=14) (dc.one (bo.get aW I)) C C C C C C C al ?_;refine bg.run (dc.one (bo.get aW I)) C ?_;refine bg.fO 16 ah I C C C C C C C C C di C C C C C C C C aW gW pE af (fun qt I => .inl (dc.one (bo.get aW I))) (fun qt I=>?_);refine bg.run (dc.one (bo.get aW I)) C ?_;refine bg.cK 19 ah I C C C C C C C C C C C aW C (fun I => .inr C) (fun I=>?_);refine bc.done C ?_;refine gx ?_;exact bn.mk (j+1,qt) I au cj (by simp only [aI];exact aX) qU
theorem acr:∀ (t:bW) (L:List bP) (bu:xN),t.all (fun ms=>ms.length≤16)→qO bu L→L.length+2*t.leaves<2^31 →
  bA d0 113 [gm bu L,lS t] (fU bu) (fun o K=>∃ od,qO od (bW.laid L t)∧o = .ret (.cw [gm od (bW.laid L t),.int .i64 (L.length:Int)])∧K=fU od):=by
 have lD:bC=1099511627776:=rfl;intro t
 induction t with
 | leaf ms=>
  intro L bu gh cR bM;rw [bW.leaves] at bM;have iV:ms.length≤16:=gh;refine bA.bh ah Tryz.func113 C C fun s I=>?_
  rw [bW.laid];rcases bu with _|⟨g,cap,cs⟩
  ·have bq:L=[]:=cR
   subst bq;unfold gm fU lS bd at *;refine b7 ?_;refine ae.nf kH ah mixed C (bg.run trivial C ?_);refine bg.nX 10 ah trivial C C C C C C C C C di C C C (.inl C) (.inr C) C (y1 _) Be yY (.inr C) ?_;refine bg.run trivial C ?_;refine bg.o5 13 ah I C C C C C C C C C di C C C C C C C du (fun cT eA ew I _=>trivial) (fun cT eA ew cu cL dT I=>?_);refine bg.run trivial C ?_;refine bc.done C ?_;refine ed ?_;exact Fin.bs I C aJ zL ⟨some (cT,eA,ew),⟨cu,cL,dT.trans (by simp;rfl)⟩,rfl,rfl⟩
  ·obtain ⟨U,ad,al⟩:=cR
   unfold gm fU lS bd at *;refine dt ?_;refine aa.pG ah C C C C C C C ?_;refine fI ?_;refine ae.nf kH ah mixed C (bg.run trivial C ?_);refine bg.nX 10 ah trivial C C C C C C C C C di C C C (.inl C) (.inr C) C (y1 _) Be yY (.inr C) ?_;refine bg.run trivial C ?_;refine bg.o6 13 ah I C C C C C C C C C di C C C C aW U ad C C C C Ep af (fun cT eA ew I _=>trivial) (fun cT eA ew cu cL dT I=>?_);refine bg.run trivial C ?_;refine bc.done C ?_;refine ed ?_;exact Fin.bs I C (aQ.of_eq (by simp [ee,gm])) zL ⟨some (cT,eA,ew),⟨cu,oW,by rw [qP,f6,g9,af6,← al];exact dT⟩,rfl,rfl⟩
 | test i a b kd rX=>
  intro L bu gh cR bM;rw [bW.leaves] at bM;have I0:=a.p1;have dk:=b.p1;have BY:=rW a (L++[⟨i,0,0,[]⟩]);have yU:=rW b (bW.laid (L++[⟨i,0,0,[]⟩]) a);have uf:(L++[(⟨i,0,0,[]⟩:bP)]).length=L.length+1:=by simp
  rw [uf] at BY;have m6:(bW.laid (bW.laid (L++[⟨i,0,0,[]⟩]) a) b)[L.length]? = some ⟨i,0,0,[]⟩:=by
   rw [xO b _ _ af,xO a _ _ af,af4 (g8 _),ap9];rfl
  have kd:=fun bu h=>kd (L++[⟨i,0,0,[]⟩]) bu gh.1 h af
  have rX:=fun bu h=>rX (bW.laid (L++[⟨i,0,0,[]⟩]) a) bu gh.2 h af
  have o8:bW.laid L (.test i a b)=(bW.laid (bW.laid (L++[⟨i,0,0,[]⟩]) a) b).set L.length ⟨i,(L.length:Int)+1,((bW.laid (L++[⟨i,0,0,[]⟩]) a).length:Int),[]⟩:=rfl;rw [o8];obtain ⟨dE,ho,cu,d1,oA⟩:=uv a;obtain ⟨a2,cT,cL,d2,sU⟩:=uv b;simp only [oA] at kd;simp only [sU] at rX;generalize eR:bW.laid (L++[⟨i,0,0,[]⟩]) a=sS at *;generalize rY:bW.laid sS b=fk at *;refine bA.bh ah Tryz.func113 C C fun s I=>?_
  rcases bu with _|⟨g,cap,cs⟩
  ·have bq:L=[]:=cR
   subst bq;unfold gm lS;rw [oA,sU];unfold fU at I ⊢;refine b7 ?_;refine ae.nf kH ah mixed C (bg.run trivial C ?_);refine bg.nX 10 ah trivial rfl rfl rfl rfl rfl rfl rfl rfl rfl di rfl rfl rfl (.inl rfl) (.inl rfl) rfl (fun _ h=>by cases h) du du (.inr rfl) ?_;refine bg.run trivial C ?_;refine bg.o5 13 ah I C C C C C C C C C di C C C C C C C du (fun cT eA ew I _=>trivial) (fun cT eA ew cu cL dT I=>?_);refine bg.run trivial C ?_;refine bc.done C ?_;have kd:=kd (some (cT,eA,ew)) ⟨cu,cL,dT.trans (by simp;rfl)⟩;simp only [gm,uf] at kd;refine bl ?_;refine aa.bX rfl rfl rfl rfl rfl kd I zL ?_ (fun _ _ ⟨_,_,h,_⟩ _=>by cases h);rintro _ _ ⟨xP,jR,⟨⟩,rfl⟩ I;simp only [d6] at I ⊢;refine fI ?_;refine aa.bX rfl rfl rfl rfl rfl (rX xP jR) I (aG.all _) ?_ (fun _ _ ⟨_,_,h,_⟩ _=>by cases h);rintro _ _ ⟨oe,jk,⟨⟩,rfl⟩ I;simp only [d6] at I ⊢;rcases oe with _|⟨g2,og,I1⟩
   ·have bq:fk=[]:=jk
    rw [bq] at m6;cases m6
   obtain ⟨g1,g3,g4⟩:=jk;have hM:=qN (k:=1) (v := .int .i64 (((([]:List bP)).length+1:Nat):Int)) (jY fk) g4 En af
   have mD:=qN (k:=2) (v := .int .i64 ((sS.length:Nat):Int)) (fun c aB=>by
    rcases aj7 aB with aB|rfl
    ·exact jY fk c aB
    ·rfl) hM.2 (aj9 pV) af
   unfold fU at I ⊢;unfold gm;refine fI ?_;refine aa.ej ah (([]:List bP)).length C C C C C C C C C C af ?_;refine dU ?_;refine aa.hQ ah I _ C C C C C C C C C aW (by rw [g1];show (([]:List bP)).length*4+1+1≤og*4;omega) C (fun I=>?_);refine aa.ej ah (([]:List bP)).length C C C C C C C C C C af ?_;refine dU ?_;refine aa.hQ ah I _ C C C C C C C C C aW (by rw [hM.1,g1];show (([]:List bP)).length*4+2+1≤og*4;omega) C (fun I=>?_);refine ed ?_;refine Fin.bs I C aJ zL ⟨some (g2,og,_),⟨mD.1.trans (hM.1.trans g1),Eo,?_⟩,?_,rfl⟩
   ·rw [af1]
    refine mD.2.trans ?_;rw [ar1,al'];rfl
   ·simp only [af1]
    try rfl
  ·obtain ⟨U,ad,al⟩:=cR
   unfold gm lS;rw [oA,sU];unfold fU at I ⊢;refine dt ?_;refine aa.pG ah C C C C C C C ?_;refine fI ?_;refine ae.nf kH ah mixed C (bg.run trivial C ?_);refine bg.nX 10 ah trivial rfl rfl rfl rfl rfl rfl rfl rfl rfl di rfl rfl rfl (.inl rfl) (.inl rfl) rfl (fun _ h=>by cases h) du du (.inr rfl) ?_;refine bg.run trivial C ?_;refine bg.o6 13 ah I C C C C C C C C C di C C C C aW U ad C C C C Ep af (fun cT eA ew I _=>trivial) (fun cT eA ew cu cL dT I=>?_);refine bg.run trivial C ?_;refine bc.done C ?_;have kd:=kd (some (cT,eA,ew)) ⟨cu,oW,by rw [qP,uf,← al];exact dT⟩;simp only [gm,uf] at kd;refine bl ?_;refine aa.bX rfl rfl rfl rfl rfl kd I zL ?_ (fun _ _ ⟨_,_,h,_⟩ _=>by cases h);rintro _ _ ⟨xP,jR,⟨⟩,rfl⟩ I;simp only [d6] at I ⊢;refine fI ?_;refine aa.bX rfl rfl rfl rfl rfl (rX xP jR) I (aG.all _) ?_ (fun _ _ ⟨_,_,h,_⟩ _=>by cases h);rintro _ _ ⟨oe,jk,⟨⟩,rfl⟩ I;simp only [d6] at I ⊢;rcases oe with _|⟨g2,og,I1⟩
   ·have bq:fk=[]:=jk
    rw [bq] at m6;cases m6
   obtain ⟨g1,g3,g4⟩:=jk;have hM:=qN (k:=1) (v := .int .i64 (((L).length+1:Nat):Int)) (jY fk) g4 En af
   have mD:=qN (k:=2) (v := .int .i64 ((sS.length:Nat):Int)) (fun c aB=>by
    rcases aj7 aB with aB|rfl
    ·exact jY fk c aB
    ·rfl) hM.2 (aj9 pV) af
   unfold fU at I ⊢;unfold gm;refine fI ?_;refine aa.ej ah (L).length C C C C C C C C C C af ?_;refine dU ?_;refine aa.hQ ah I _ C C C C C C C C C aW (by rw [g1];show (L).length*4+1+1≤og*4;omega) C (fun I=>?_);refine aa.ej ah (L).length C C C C C C C C C C af ?_;refine dU ?_;refine aa.hQ ah I _ C C C C C C C C C aW (by rw [hM.1,g1];show (L).length*4+2+1≤og*4;omega) C (fun I=>?_);refine ed ?_;refine Fin.bs I C aJ zL ⟨some (g2,og,_),⟨mD.1.trans (hM.1.trans g1),Eo,?_⟩,?_,rfl⟩
   ·rw [af1]
    refine mD.2.trans ?_;rw [ar1,al'];rfl
   ·simp only [af1]
    try rfl
def vT (f:ak):Bool:=decide (f.path.length=0)&&(decide (f.op=2)&&(decide (f.cls=0)||decide (f.cls=2)))
def FN:Nat→List ak→Nat
 | _,[]=>0
 | i,f::r=>FN (i+1) r+(if vT f then 2^i else 0)
theorem Rk:∀ (l:List ak) (i:Nat),∃ m,FN i l=2^i*m∧m<2^l.length∧∀ j x,l[j]? = some x→m.testBit j=vT x
  | [],i=>⟨0,by rw [FN,Nat.mul_zero],by simp,fun j x h=>by cases h⟩
  | f::r,i=>by
    obtain ⟨m,U,ad,al⟩:=Rk r (i+1);refine ⟨2*m+(if vT f then 1 else 0),?_,?_,?_⟩
    · rw [FN,U,ao2,Nat.mul_add,az5]
      split<;>simp
    · rw [g9,ao2];split<;>omega
    · intro j x ab
      cases j with
      | zero=>
        have:f=x:=by simpa using ab
        subst this;rw [Nat.testBit_zero];cases vT f<;>simp<;>omega
      | succ j=>
        rw [Nat.testBit_succ,← al j x vU];congr 1;split<;>omega
theorem acs {w:bz} {l:List ak} (cX:iD w l):∃ v,v<2^l.length∧∀ (arg:Int) (n:Nat),ub n (qK l v) arg []=true:=by
 obtain ⟨m,U,ad,al⟩:=Rk l 0;refine ⟨m,ad,fun arg n=>?_⟩;have ab:∀ x∈qK l m,x.2 = !vT x.1:=fun x ab=>by
  obtain ⟨j,aL⟩:=ai0 ab;have ra:=qs aL;rw [FH] at ra;have h:=Kb (v:=m) (f7 ra);rw [aL] at h;simp only [ao1.injEq] at h;subst h;simp only;rw [al j _ (f7 ra)]
 unfold ub;rw [f8,ah2];constructor
 ·intro x hm
  unfold ft at hm;obtain ⟨hm,cY⟩:=ah6.1 hm;have h:=ab x hm;unfold rR at cY;simp only [f8,i8,al6] at cY;unfold qI;rw [h];unfold vT;rw [cY.2];cases decide (x.1.op=2)&&(decide (x.1.cls=0)||decide (x.1.cls=2))<;>rfl
 ·unfold sM
  rw [ah2];intro s ar;unfold lo;rw [ai5,ak'];intro x hm;have h:=ab x hm;rw [f8,not_and];intro bf bE;rw [Fz] at bE;have:vT x.1=false:=by
   unfold vT;rw [ab' (by have:=bE.2.1;simp at this;omega)];rfl
  rw [h,this] at bf;cases bf
theorem acu {w:bz} (hw:gz w) {l:List ak} (cX:iD w l) (ig:l.length≤7):hF w l≠[]:=by
 obtain ⟨v,aw,az⟩:=acs cX;have aC:=Q6 cX ig v;intro he;have hm:v∈hF w l:=by
  unfold hF;refine ah6.2 ⟨ak5.2 aw,?_⟩;unfold mW;rw [← QW hw aC.2];unfold BL;rw [ah2];intro a _;rw [show (3:Nat)=2+1 from rfl,oY,az,ak3,ap2]
 rw [he] at hm;cases hm
end Go.Proofs.YtnafpeohfbglmaaGreat
