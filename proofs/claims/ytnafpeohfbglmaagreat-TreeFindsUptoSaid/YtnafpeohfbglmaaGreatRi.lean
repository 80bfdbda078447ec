import Derived.Test.YtnafpeohfbglmaaGreatRh
import Derived.Test.YtnafpeohfbglmaaGreatRows
import Derived.ProofKit
import Derived.OpenShut
import Derived.WalkKit
import Derived.JoinedCond
set_option linter.unusedVariables.analyzeTactics true
set_option linter.unusedSimpArgs false
set_option maxRecDepth 100000
set_option maxHeartbeats 4000000
open List (all_cons all_eq_true all_nil any_cons any_eq_false any_eq_true any_nil append_nil cons_append drop filter_cons foldl_cons foldl_nil getD_eq_getElem?_getD getElem?_eq_getElem length_append length_cons length_filter_le length_map length_range length_take map_append map_cons map_nil mem_append mem_cons_of_mem mem_cons_self mem_filter mem_of_getElem? mem_range mem_singleton nil_append range sum_cons take take_add_one take_length)
open Nat (lt_succ_self mul_one pow_le_pow_right testBit_and testBit_or testBit_two_pow testBit_xor zero_le zero_testBit)
open Bool (and_eq_true eq_false_iff false_eq_true not_eq_true' or_eq_false_iff or_eq_true)
open Int (toNat_natCast)
open Option (getD_some)
theorem BM {p:Prop} (h:p:=by repeat (first|exact trivial|refine ⟨⟨_,rfl,aM⟩,?_⟩|refine ⟨⟨_,rfl,aS.of_eq (by (first|rw [jv (by omega)]|(congr 1;(try rw [df]);show _=max _ _;split<;>omega)|(congr 1;(try rw [df]);show _=min _ _;split<;>omega)|rw [List.map_append];rfl))⟩,?_⟩)):p:=h
theorem OS {p:Prop} (h:p:=by repeat (first|exact trivial|refine ⟨⟨_,rfl,aM⟩,?_⟩|refine ⟨⟨_,rfl,aS.of_eq (by (first|rw [jv (by omega)]|(show _=lg (cv.test _ _ _);rw [lg,CY,IH])))⟩,?_⟩)):p:=h
theorem Ej {p:Prop} (h:p:=by repeat (first|exact trivial|refine ⟨⟨_,rfl,aM⟩,?_⟩|refine ⟨⟨_,rfl,aS.of_eq (by (first|rw [jv (by omega)]|rw [sE]))⟩,?_⟩)):p:=h
theorem OT {p:Prop} (h:p:=by repeat (first|exact trivial|refine ⟨⟨_,rfl,aM⟩,?_⟩|refine ⟨⟨_,rfl,aS.of_eq (by (first|rw [jv (by omega)]|rw [aI]))⟩,?_⟩)):p:=h
theorem OU {p:Prop} (h:p:=by repeat (first|exact trivial|refine ⟨⟨_,rfl,aM⟩,?_⟩|refine ⟨⟨_,rfl,aS.of_eq (by (rw [ZE]))⟩,?_⟩)):p:=h
theorem II {p:Prop} (h:p:=by have:=lG.bl;have e:(b6 p).owner=fF 0 p.cl:=rfl;rw [e] at this;omega):p:=h
theorem BN {p:Prop} (h:p:=by simp only [List.length_append,List.length_cons,List.length_nil];exact aH.all _):p:=h
theorem BO {p:Prop} (h:p:=by rw [pT,Nat.mul_one];exact AN fun k=>rfl):p:=h
theorem qf {p:Prop} (h:p:=by show M.length-(j+1)<M.length-j;omega):p:=h
theorem vq {p:Prop} (h:p:=by show l.length-(i+1)<l.length-i;omega):p:=h
theorem y8 {p:Prop} (h:p:=by show L.length-(j+1)<L.length-j;omega):p:=h
theorem Ek {p:Prop} (h:p:=by show L.length-(k+1)<L.length-k;omega):p:=h
namespace Go.Proofs.YtnafpeohfbglmaaGreat
open Go.cW Go.dv
def eS (ws:List Nat) (u:Nat):Bool:=ws.contains u
theorem ZF {vs:List Nat} {q:Nat→Bool} {v:Nat} (h:v∈vs):eS (vs.filter q) v=q v:=by
 unfold eS;rw [Bool.eq_iff_iff,List.contains_iff_mem,mem_filter];exact ⟨fun h=>h.2,fun ae=>⟨h,ae⟩⟩
def jm (vs ws:List Nat):Prop:=∃ q,ws=vs.filter q
theorem jm.all (vs:List Nat):jm vs vs:=⟨fun _=>true,(List.filter_eq_self.2 fun _ _=>rfl).symm⟩
theorem jm.filter {vs ws:List Nat} (h:jm vs ws) (q:Nat→Bool):jm vs (ws.filter q):=by
 obtain ⟨r,rfl⟩:=h;exact ⟨_,List.filter_filter⟩
theorem jm.mem {vs ws:List Nat} (h:jm vs ws) {v:Nat} (av:v∈ws):v∈vs:=by
 obtain ⟨r,rfl⟩:=h;exact (mem_filter.1 av).1
theorem jm.len {vs ws:List Nat} (h:jm vs ws):ws.length≤vs.length:=by
 obtain ⟨r,rfl⟩:=h;exact length_filter_le _ _
theorem jm.self {vs ws:List Nat} (h:jm vs ws):vs.filter (eS ws)=ws:=by
 obtain ⟨r,rfl⟩:=h;exact List.filter_congr fun v av=>ZF av
theorem jm.inj {vs ws BP:List Nat} (eL:∀ v∈vs,v<128) (h:jm vs ws) (eX:jm vs BP) (he:kd (eS ws)=kd (eS BP)):ws=BP:=by
 have:=YW he;rw [← h.self,← eX.self];exact List.filter_congr fun v av=>this v (eL v av)
theorem OV {vs ws:List Nat} (eL:∀ v∈vs,v<128) (h:jm vs ws):(kd (eS ws)==[0,0])=ws.isEmpty:=by
 rw [Bool.eq_iff_iff,beq_iff_eq,List.isEmpty_iff,← YX];constructor
 ·intro he
  have br:jm vs []:=⟨fun _=>false,by simp⟩;exact h.inj eL br he
 ·rintro rfl
  rfl
def rB (A:Nat) (h:Nat→List Int) (vs:List Nat) (M:List (List Int×af)):Prop:=∀ e∈M,∃ ws,jm vs ws∧e=(kd (eS ws),lg (gT A h ws))
theorem rB.len {A:Nat} {h:Nat→List Int} {vs:List Nat} {M:List (List Int×af)} (eQ:rB A h vs M):∀ e∈M,e.1.length=2:=fun e he=>by
 obtain ⟨ws,_,rfl⟩:=eQ e he;rfl
theorem rB.find {A:Nat} {h:Nat→List Int} {vs ws:List Nat} {M:List (List Int×af)} {e:List Int×af} (eL:∀ v∈vs,v<128) (eQ:rB A h vs M) (hw:jm vs ws) (aZ:M.find? (fun e=>e.1==kd (eS ws))=some e):e.2=lg (gT A h ws):=by
 obtain ⟨BP,U,ae⟩:=eQ e (List.mem_of_find?_eq_some aZ);have an:=List.find?_some aZ;rw [ae] at an ⊢;rw [U.inj eL hw (by simpa using an)]
theorem rB.add {A:Nat} {h:Nat→List Int} {vs ws:List Nat} {M:List (List Int×af)} (eQ:rB A h vs M) (hw:jm vs ws):rB A h vs (M++[(kd (eS ws),lg (gT A h ws))]):=fun e he=>by
 rcases mem_append.1 he with he|he
 ·exact eQ e he
 ·rw [mem_singleton.1 he];exact ⟨ws,hw,rfl⟩
def kS (vs:List Nat) (M l':List (List Int×af)) (k:Nat):Prop:=∀ e∈l',e∈M∨∃ ws,jm vs ws∧ws.length<k∧e.1=kd (eS ws)
theorem kS.refl (vs:List Nat) (M:List (List Int×af)) (k:Nat):kS vs M M k:=fun _ h => .inl h
theorem kS.trans {vs:List Nat} {M l' OW:List (List Int×af)} {k k':Nat} (h:kS vs M l' k) (eX:kS vs l' OW k') (aD:k'≤k):kS vs M OW k:=fun e he=>by
 rcases eX e he with U|⟨ws,U,ae,an⟩
 ·exact h e U
 ·exact .inr ⟨ws,U,by omega,an⟩
theorem kS.add {vs ws:List Nat} {M l':List (List Int×af)} {k:Nat} {x:af} (h:kS vs M l' k) (hw:jm vs ws) (aD:ws.length<k):kS vs M (l'++[(kd (eS ws),x)]) k:=fun e he=>by
 rcases mem_append.1 he with he|he
 ·exact h e he
 ·rw [mem_singleton.1 he];exact .inr ⟨ws,hw,aD,rfl⟩
theorem kS.mono {vs:List Nat} {M l':List (List Int×af)} {k k':Nat} (h:kS vs M l' k) (aD:k≤k'):kS vs M l' k':=fun e he=>by
 rcases h e he with U|⟨ws,U,ae,an⟩
 ·exact .inl U
 ·exact .inr ⟨ws,U,by omega,an⟩
theorem kS.none {vs ws:List Nat} {M l':List (List Int×af)} (eL:∀ v∈vs,v<128) (h:kS vs M l' ws.length) (hw:jm vs ws) (aZ:M.find? (fun e=>e.1==kd (eS ws))=none):l'.find? (fun e=>e.1==kd (eS ws))=none:=by
 rw [List.find?_eq_none] at aZ ⊢;intro e he;rcases h e he with U|⟨BP,U,ae,an⟩
 ·exact aZ e U
 ·rw [an]
  intro az;have:=U.inj eL hw sc;rw [this] at ae;exact absurd ae (Nat.lt_irrefl _)
def y9:Option cv→af
 | none => .nR
 | some t=>lg t
theorem y' {ws:List Nat} {u:Nat}:eS ws u=true↔u∈ws:=List.contains_iff_mem
theorem ZG {vs ws:List Nat} (hw:jm vs ws) (i u:Nat):(eS ws u&&eS (vs.filter fun v=>v.testBit i) u)=eS (gx i ws) u:=by
 rw [Bool.eq_iff_iff,and_eq_true,y',y',y',gx,mem_filter,mem_filter];exact ⟨fun h=>⟨h.1,h.2.2⟩,fun h=>⟨h.1,hw.mem h.1,h.2⟩⟩
theorem ZH {vs ws:List Nat} (hw:jm vs ws) (i u:Nat):(eS ws u && !eS (vs.filter fun v=>v.testBit i) u)=eS (gy i ws) u:=by
 rw [Bool.eq_iff_iff,and_eq_true,not_eq_true',eq_false_iff,y',ne_eq,y',y',gy,mem_filter,mem_filter];refine ⟨fun h=>⟨h.1,?_⟩,fun h=>⟨h.1,fun ae=>?_⟩⟩
 ·cases aq:u.testBit i with
  | false=>rfl
  | true=>exact absurd ⟨hw.mem h.1,aq⟩ h.2
 ·have:=h.2
  rw [ae.2] at this;cases this
theorem ZI {vs:List Nat} {i j v:Nat} (av:vs[j]? = some v):(fun u=>eS ((vs.take (j+1)).filter fun v=>v.testBit i) u)=(fun u=>eS ((vs.take j).filter fun v=>v.testBit i) u||(v.testBit i&&u==v)):=by
 funext u;rw [take_add_one,av,List.filter_append];unfold eS;rw [List.contains_append];congr 1;show List.contains (List.filter (fun v=>v.testBit i) [v]) u=_;rw [filter_cons,List.filter_nil];cases v.testBit i with
 | true=>simp;rfl
 | false=>simp
end Go.Proofs.YtnafpeohfbglmaaGreat
namespace Go.cW
section
variable {P:Program} {N:Nat} {env:Env} {s:ao} {o:Oper}
theorem a7.El {t yt:TypeId} {x y:Operand} {k:IntKind} {n:Nat} {xs ys:List Int} (gO:sb P t k n) (bq:P.eqGuardType P.depth t=false) (ah:o.op = .binOp .eql t x y yt) (ab:aL env x=some (kr k xs)) (ay:aL env y=some (kr k ys)) (U:xs.length=n) (ae:ys.length=n) :
  a7 P N o env s (fun v al=>v = .bool (xs==ys)∧al=s) (fun _ _=>False):=by
 refine a7.nn jf fun ro B da w p aI=>?_
 have cb:=AV (aI.aL ab);have b1:=AV (aI.aL ay);refine ur (v := .bool (xs==ys)) ah ?_ ?_ (.bool _)
 ·rw [cb,b1]
  unfold eqGuard pd;simp [Sem.run_bind,bq]
 ·rw [cb,b1]
  have:=gO.eq xs ys U ae w;unfold pd at this ⊢;simp only [binOp,Sem.run_bind,this,Result.andThen_ok,Sem.run_pure]
end
section
variable {P:Program} {N:Nat} {ops:Array Oper} {Q:b8→Env→ao→Prop} {env:Env} {s:ao} {l:List Oper} {o:Oper} {d:Nat}
theorem aa.El {t yt:TypeId} {x y:Operand} {k:IntKind} {n:Nat} {xs ys:List Int} (gO:sb P t k n) (bq:P.eqGuardType P.depth t=false) (aw:guardOf ops env o=some true) (ax:o.dst=some d) (aW:Nat.blt d N=true) (ah:o.op = .binOp .eql t x y yt) (ab:aL env x=some (kr k xs)) (ay:aL env y=some (kr k ys)) (U:xs.length=n) (ae:ys.length=n)
  (h:aa P N ops l Q ((d,.bool (xs==ys))::env) s):aa P N ops (o::l) Q env s:=
 aa.op aw ax aW (a7.El gO bq ah ab ay U ae) (fun x al ⟨U,ae⟩=>by subst U;subst ae;exact h) (fun _ _ h=>h.elim)
end
end Go.cW
namespace Go.Proofs.YtnafpeohfbglmaaGreat
open Go.cW Go.dv
theorem BQ:sb Tryz.prog 106 .u64 2:=by
 refine ⟨by kernel_rfl,fun e xs ab w=>?_,fun xs ys ab ay w=>?_⟩
 ·obtain ⟨a,b,rfl⟩:=two ab
  kernel_rfl
 ·obtain ⟨a,b,rfl⟩:=two ab
  obtain ⟨da,aX,rfl⟩:=two ay;have hint:(Tryz.prog).underlying 104 = some (.int .u64):=by kernel_rfl
  obtain ⟨info,aQ⟩:=info_of_underlying hint;have AY:=Mp (T := 106) (e := 104) (k := .u64) fC aQ fC hint (fun a b w=>⟨by kernel_rfl,by kernel_rfl⟩) 9998 a b da aX w;have av:∀ a b:Int,pd .u64 [a,b] = .agg #[.int .u64 a,.int .u64 b]:=fun _ _=>rfl
  rw [av,av];unfold Op.equal;exact AY
theorem OX:(Tryz.prog).eqGuardType (Tryz.prog).depth 106 = false:=by kernel_rfl
def jn (p:bP) (n:Int) (l:List aj) (aq cI cr:Nat) (vs:List Nat) (M:List (List Int×af)):a':=[ep p n (c4 l) (.aC 1 (iZ vs) .bc) aq cI cr,(.own aq,.map (BH p n l vs)),(.own cI,.map (mC .u64 M))]
theorem ZJ (p:bP) (n:Int) (l:List aj) (aq cI cr:Nat) (vs:List Nat) (eL:∀ v∈vs,v<2^l.length) (fX:l.length≤7) (ft:vs.length≤128) (hy:p.methods.length≤16):∀ (k:Nat) (ws:List Nat),ws.length≤k→jm vs ws→∀ M,rB l.length (dM p n l) vs M →
  bE Tryz.prog 62 [.ptr cr 0,kG (eS ws)] (jn p n l aq cI cr vs M) (fun o K=>∃ l',rB l.length (dM p n l) vs l'∧kS vs M l' (ws.length+1)∧o = .ret (lg (gT l.length (dM p n l) ws))∧K=jn p n l aq cI cr vs l'):=by
 have ny:bu=1099511627776:=rfl;have vk:2^l.length≤2^7:=pow_le_pow_right ag fX;have za:∀ v∈vs,v<128:=fun v h=>by have:=eL v h;omega
 intro k
 induction k using Nat.strongRecOn with
 | ind k a6=>
 intro ws aD hw M eQ;have kx:=eQ.len;have IJ:=Za p n l aq cI cr vs za ft hy (eS ws);rw [hw.self] at IJ;have pb:=HO l.length (dM p n l) ws;have o6:=hw.len;refine bE.bj ai Tryz.func62 C C fun s I=>?_
 unfold jn ep eh c4 kG at *;refine hl I ?_;intro I;refine aJ.yA ai I (xs:=kd (eS ws)) (es:=M) BQ C C C C C C C C C C kx a1 C ?_;cases aZ:M.find? (fun e=>e.1==kd (eS ws)) with
 | some e=>
  rw [Option.map_some,eQ.find za hw aZ];refine hk ?_;exact Fin.bz I C aM (aH.all _) ⟨M,eQ,kS.refl _ _ _,rfl,rfl⟩
 | none=>
 rw [Option.map_none];refine bZ ?_;unfold qd ep eh c4 at IJ;refine aa.b9 rfl rfl rfl rfl rfl IJ I aY ?_ (fun _ _ ⟨h,_⟩ _=>by cases h);rintro _ _ ⟨⟨⟩,rfl⟩ I;simp only [nil_append,cons_append] at I ⊢;cases a8:rh (dM p n l) ws with
 | true=>
  rw [a8,if_pos C] at pb;rw [if_pos C];refine hl I ?_;intro I;refine aJ.AW ai I (xs:=kd (eS ws)) (es:=M) BQ C C C (.inl C) C C C C C C kx a1 aZ (fun I=>?_);refine gH ?_;exact Fin.bz (K:=jn p n l aq cI cr vs (M++[(kd (eS ws),lg (gT l.length (dM p n l) ws))])) I C aM (by rw [pb];exact (by simp only [jn,ep,eh,c4];exact aY)) ⟨_,eQ.add hw,(kS.refl _ _ _).add hw (lt_succ_self _),by rw [pb];rfl,rfl⟩
 | false=>
 rw [a8,if_neg ba] at pb;rw [if_neg ba];obtain ⟨abY,BR⟩:=Xb (A:=l.length) (h:=dM p n l) (vs:=ws) (fun v h=>eL v (hw.mem h)) a8 (gT l.length (dM p n l));rw [BR,getD_some] at pb;refine hl I ?_;intro I;refine ad.b0 [0,3,50] C I (σ:=Nat×Option cv×List (List Int×af)) (fun q=>[(51,.int .i64 (q.1:Int)),(9,y9 q.2.1)]) (fun q=>jn p n l aq cI cr vs q.2.2)
  (fun q=>q.1≤l.length∧rB l.length (dM p n l) vs q.2.2∧kS vs M q.2.2 ws.length∧(∀ t,q.2.1=some t→t.leaves≤128)∧(range l.length).foldl (l8 (gT l.length (dM p n l)) ws) none=(List.range' q.1 (l.length-q.1)).foldl (l8 (gT l.length (dM p n l)) ws) q.2.1) (fun q=>l.length-q.1) (0,none,M)
  ⟨zero_le _,eQ,kS.refl _ _ _,(fun _ h=>by cases h),by rw [List.range_eq_range'];rfl⟩ (ck C) (by simp only [jn,ep,eh,c4];exact aY) ?_
 rintro ⟨i,out,tU⟩ ⟨aQ,xA,vr,gh,ak⟩ I;simp only [jn,ep,eh,c4] at aQ xA vr gh ak I ⊢;have vo:=kS.none za vr hw aZ;have ZK:=xA.len;refine b2 ?_;refine ad.cond C (fun ar=>?_) (fun aV=>?_);rotate_left
 ·have aV:i=l.length:=by simp at aV;omega
  rw [aV,Nat.sub_self,List.range'_zero,foldl_nil,BR] at ak;subst ak;unfold y9;refine tf I ?_;intro I;refine aJ.AW ai I (xs:=kd (eS ws)) (es:=tU) BQ C C C (.inl C) C C C C C C ZK a1 vo (fun I=>?_);refine gH ?_;exact Fin.bz (K:=jn p n l aq cI cr vs (tU++[(kd (eS ws),lg (gT l.length (dM p n l) ws))])) I C aM (by rw [pb];exact (by simp only [jn,ep,eh,c4];exact aY)) ⟨_,xA.add hw,(vr.mono (Nat.le_succ _)).add hw (lt_succ_self _),by rw [pb],rfl⟩
 have ar:i<l.length:=by simpa using ar
 rw [show l.length-i=(l.length-(i+1))+1 by omega,List.range'_succ,foldl_cons] at ak;have dn:l8 (gT l.length (dM p n l)) ws out i=if (gx i ws).isEmpty||(gy i ws).isEmpty then out else xm out (.test i (gT l.length (dM p n l) (gy i ws)) (gT l.length (dM p n l) (gx i ws))):=rfl
 repeat (first|(refine SS I ?_;clear I;intro I)|refine aa.d' ai I rfl rfl rfl rfl rfl rfl rfl (fun cy I=>?_))
 obtain ⟨jF,rfl⟩:∃ x,x=cy:=⟨_,rfl⟩;have IK:(fun u=>eS ((vs.take 0).filter fun v=>v.testBit i) u)=fun _=>false:=rfl
 refine ad.b0 [0,3,50,51,9,10,11,57,58] C I (σ:=Nat) (fun j=>[(59,.int .i64 (j:Int))]) (fun j=>(.own jF,.box 106 [.int .u64 (fY (fun u=>eS ((vs.take j).filter fun v=>v.testBit i) u) 0 64:Nat),.int .u64 (fY (fun u=>eS ((vs.take j).filter fun v=>v.testBit i) u) 64 64:Nat)])::jn p n l aq cI cr vs tU) (fun j=>j≤vs.length) (fun j=>vs.length-j) 0 (zero_le _) (ck C) (by
  simp only [IK,BG (fun _=>rfl),jn,ep,eh,c4]
  exact aY) ?_
 rintro j aK I;simp only [jn,ep,eh,c4] at aK I ⊢;refine b2 ?_;refine ad.cond C (fun cC=>?_) (fun aV=>?_)
 ·have cC:j<vs.length:=by simpa [iZ] using cC
  obtain ⟨v,av,kz⟩:=bV (f:=fun v:Nat=>af.int .i64 (v:Int)) cC;have IL:=za v (mem_of_getElem? av);have mA:=ZI (i:=i) av;have Em:=OA (fun u=>eS ((vs.take j).filter fun v=>v.testBit i) u) v IL;unfold kG at Em;unfold iZ at I ⊢;refine dC ?_;refine aa.shr _ C C C C C C ag (tn ag) ?_;refine aa.bits _ C C C C C C (Ae (n:=1) (Nat.lt_of_le_of_lt (Nat.shiftRight_le v i) ag) ag) ?_;refine fI ?_;have p4:=Iw v i;cases oW:v.testBit i with
  | true=>
   simp only [oW,Bool.true_and] at mA;refine ad.cond C (fun _=>?_) (fun h=>by rw [p4,oW] at h;cases h);refine hl I ?_;intro I;exact bn.mk (j+1) I cC b' (by simp only [mA];exact aY) xo
  | false=>
   simp only [oW,Bool.false_and,Bool.or_false] at mA;refine ad.cond C (fun h=>by rw [p4,oW] at h;cases h) (fun _=>?_);refine fR ?_;exact bn.mk (j+1) I cC b' (by simp only [mA];exact aY) xo
 have aV:j=vs.length:=by simp [iZ] at aV;omega
 subst aV;rw [take_length] at I ⊢;have hand:=YY (eS ws) (fun u=>eS (vs.filter fun v=>v.testBit i) u);have IM:=YZ (eS ws) (fun u=>eS (vs.filter fun v=>v.testBit i) u);simp only [ZG hw i,ZH hw i] at hand IM;unfold kG at hand IM;refine ad.mo I 11 jF C .here (fun I=>?_);refine uD ?_;refine ad.x7 (σ:=Nat×Nat) (fun z=>[(0,.ptr cr 0),(3,.bA [.int .u64 (fY (eS ws) 0 64:Nat),.int .u64 (fY (eS ws) 64 64:Nat)] 0),(50,.int .i64 ((l.map aj.bJ).length:Int)),(51,.int .i64 (i:Int)),(9,y9 out),(10,.int .i64 (i:Int)),(14,.ptr z.1 0),(15,.ptr z.2 0)]) (fun z=>(.own z.1,.box 106 [.int .u64 (fY (eS (gx i ws)) 0 64:Nat),.int .u64 (fY (eS (gx i ws)) 64 64:Nat)])::(.own z.2,.box 106 [.int .u64 (fY (eS (gy i ws)) 0 64:Nat),.int .u64 (fY (eS (gy i ws)) 64 64:Nat)])::jn p n l aq cI cr vs tU) (fun _=>True) ?_ ?_
 ·refine ad.qD ai mixed C (bf.run C ?_)
  refine bf.CQ (i:=2) C C C C C C C hand ?_;refine bf.run C ?_;refine bf.CQ (i:=5) C C C C C C C IM ?_;refine bf.run C ?_;refine bf.many C (hU.c (kk.mk (i:=6) C C C C (a7.d' ai I C C C C (X:=fun _ _=>False)) ?_ (fun _ _ h=>h.elim)) (hU.c (kk.mk (i:=7) C C C C (a7.d' ai I C C C C (X:=fun _ _=>False)) ?_ (fun _ _ h=>h.elim)) hU.n))
  ·rintro _ _ ⟨BS,rfl,rfl,I⟩
   refine bf.d' 7 ai I C C C C C C C C C (fun rp I=>?_);refine bf.run C ?_;refine bf.cS 8 ai I C C C C C C C C C C C a1 b3 (fun I=>?_);refine bf.run C ?_;refine bf.cS 9 ai I C C C C C C C C C C C a1 b3 (fun I=>?_);refine bf.run C ?_;refine bf.done C ?_;exact lW.mk (BS,rp) I trivial (ck C) (by simp only [jn,ep,eh,c4,iZ];exact aY)
  ·rintro _ _ ⟨rp,rfl,rfl,I⟩
   refine bf.d' 6 ai I C C C C C C C C C (fun BS I=>?_);refine bf.run C ?_;refine bf.cS 8 ai I C C C C C C C C C C C a1 b3 (fun I=>?_);refine bf.run C ?_;refine bf.cS 9 ai I C C C C C C C C C C C a1 b3 (fun I=>?_);refine bf.run C ?_;refine bf.done C ?_;exact lW.mk (BS,rp) I trivial (ck C) (by simp only [jn,ep,eh,c4,iZ];exact aY)
 rintro ⟨BS,rp⟩-I;unfold jn ep eh c4 at I ⊢;refine ad.mo I 14 BS C .here (fun I=>?_);refine ad.mo I 15 rp C .here (fun I=>?_);have c8:=OV za (hw.filter fun v=>v.testBit i);have x3:=OV za (hw.filter fun v => !v.testBit i);rw [show ws.filter (fun v=>v.testBit i)=gx i ws from rfl] at c8;rw [show ws.filter (fun v => !v.testBit i)=gy i ws from rfl] at x3;refine jM ?_;refine aa.El BQ OX (xs:=kd (eS (gx i ws))) (ys:=[0,0]) C C C C C C C C ?_;rw [c8];cases En:(gx i ws).isEmpty with
 | true=>
  rw [dn,En,Bool.true_or,if_pos C] at ak;refine bB ?_;exact bn.mk (i+1,out,tU) I ⟨ar,xA,vr,gh,ak⟩ b' aY vq
 | false=>
 refine dS ?_;refine aa.El BQ OX (xs:=kd (eS (gy i ws))) (ys:=[0,0]) C C C C C C C C ?_;rw [x3];cases cO:(gy i ws).isEmpty with
 | true=>
  rw [dn,En,cO,Bool.or_true,if_pos C] at ak;refine bB ?_;exact bn.mk (i+1,out,tU) I ⟨ar,xA,vr,gh,ak⟩ b' aY vq
 | false=>
 rw [dn,En,cO,if_neg ba] at ak;have dd:=DO (i:=i) (vs:=ws) (by rw [En,cO];rfl);have abZ:=DN i ws;have Ia:=Bg l.length (dM p n l) _ (gx i ws) (Nat.le_refl _);have lp:=Bg l.length (dM p n l) _ (gy i ws) (Nat.le_refl _);have lJ:=fun M h=>a6 (gy i ws).length ag (gy i ws) (Nat.le_refl _) (hw.filter fun v => !v.testBit i) M h
 have Eo:=fun M h=>a6 (gx i ws).length ag (gx i ws) (Nat.le_refl _) (hw.filter fun v=>v.testBit i) M h
 obtain ⟨ZL,ZM,fn,CY,-,-⟩:=tP (gT l.length (dM p n l) (gy i ws));obtain ⟨ty,ga,acS,IH,-,-⟩:=tP (gT l.length (dM p n l) (gx i ws));simp only [CY] at lJ;simp only [IH] at Eo;have OY:(cv.test i (gT l.length (dM p n l) (gy i ws)) (gT l.length (dM p n l) (gx i ws))).leaves≤128:=by rw [cv.leaves];omega
 refine c3 ?_;refine ad.x7 (σ:=List (List Int×af)×Nat) (fun z=>[(0,.ptr cr 0),(3,.bA [.int .u64 (fY (eS ws) 0 64:Nat),.int .u64 (fY (eS ws) 64 64:Nat)] 0),(50,.int .i64 ((l.map aj.bJ).length:Int)),(51,.int .i64 (i:Int)),(9,y9 out),(10,.int .i64 (i:Int)),(16,.ptr z.2 0)]) (fun z=>(.own z.2,.box 156 [.int .i64 (i:Int),.iface ZL ZM,.iface ty ga])::jn p n l aq cI cr vs z.1) (fun z=>rB l.length (dM p n l) vs z.1∧kS vs tU z.1 ws.length) ?_ ?_
 ·refine ad.qD ai mixed C (bf.run C ?_)
  refine bf.many rfl (hU.c (kk.mk (i:=3) rfl rfl rfl rfl (a7.b9 rfl rfl (lJ tU xA) I aY) ?_ (fun x al h=>by obtain ⟨_,_,_,_,_,_,h,_⟩:=h;cases h)) (hU.c (kk.mk (i:=8) rfl rfl rfl rfl (a7.d' ai I rfl rfl rfl rfl (X:=fun _ _=>False)) ?_ (fun _ _ h=>h.elim)) hU.n))
  ·rintro _ _ ⟨aO,rfl,I,Ep,xB,Er,⟨⟩,rfl⟩
   simp only [nil_append,cons_append] at I ⊢;refine bf.run C ?_;refine bf.many rfl (hU.c (kk.mk (i:=6) rfl rfl rfl rfl (a7.b9 rfl rfl (Eo Ep xB) I aY) ?_ (fun x al h=>by obtain ⟨_,_,_,_,_,_,h,_⟩:=h;cases h)) (hU.c (kk.mk (i:=8) rfl rfl rfl rfl (a7.d' ai I rfl rfl rfl rfl (X:=fun _ _=>False)) ?_ (fun _ _ h=>h.elim)) hU.n))
   ·rintro _ _ ⟨aO,rfl,I,M2,sv,tV,⟨⟩,rfl⟩
    simp only [nil_append,cons_append] at I ⊢;refine bf.run C ?_;refine bf.d' 8 ai I C C C C C C C C C (fun xC I=>?_);refine bf.run C ?_;refine bf.cS 9 ai I C C C C C C C C C C C a1 b3 (fun I=>?_);refine bf.run C ?_;refine bf.done C ?_;exact lW.mk (M2,xC) I ⟨sv,(Er.mono ag).trans tV ag⟩ (ck C) (by simp only [jn,ep,eh,c4,iZ];exact aY)
   ·rintro _ _ ⟨xC,rfl,rfl,I⟩
    refine bf.b9 6 rfl rfl rfl rfl rfl rfl rfl (Eo Ep xB) I aY ?_ (fun _ _ an _=>by obtain ⟨_,_,_,h,_⟩:=an;cases h);rintro _ _ ⟨M2,sv,tV,⟨⟩,rfl⟩ I;simp only [nil_append,cons_append] at I ⊢;refine bf.run C ?_;refine bf.cS 9 ai I C C C C C C C C C C C a1 b3 (fun I=>?_);refine bf.run C ?_;refine bf.done C ?_;exact lW.mk (M2,xC) I ⟨sv,(Er.mono ag).trans tV ag⟩ (ck C) (by simp only [jn,ep,eh,c4,iZ];exact aY)
  ·rintro _ _ ⟨xC,rfl,rfl,I⟩
   refine bf.b9 3 rfl rfl rfl rfl rfl rfl rfl (lJ tU xA) I aY ?_ (fun _ _ an _=>by obtain ⟨_,_,_,h,_⟩:=an;cases h);rintro _ _ ⟨Ep,xB,Er,⟨⟩,rfl⟩ I;simp only [nil_append,cons_append] at I ⊢;refine bf.run C ?_;refine bf.b9 6 rfl rfl rfl rfl rfl rfl rfl (Eo Ep xB) I aY ?_ (fun _ _ an _=>by obtain ⟨_,_,_,h,_⟩:=an;cases h);rintro _ _ ⟨M2,sv,tV,⟨⟩,rfl⟩ I;simp only [nil_append,cons_append] at I ⊢;refine bf.run C ?_;refine bf.cS 9 ai I C C C C C C C C C C C a1 b3 (fun I=>?_);refine bf.run C ?_;refine bf.done C ?_;exact lW.mk (M2,xC) I ⟨sv,(Er.mono ag).trans tV ag⟩ (ck C) (by simp only [jn,ep,eh,c4,iZ];exact aY)
 rintro ⟨M2,xC⟩ ⟨sv,tV⟩ I;unfold jn ep eh c4 at I ⊢;refine ad.mo I 16 xC C .here (fun I=>?_);cases out with
 | none=>
  unfold y9;refine bB ?_;exact bn.mk (i+1,some (.test i (gT l.length (dM p n l) (gy i ws)) (gT l.length (dM p n l) (gx i ws))),M2) I ⟨ar,sv,vr.trans tV (Nat.le_refl _),(fun t h=>by cases h;exact OY),ak⟩ OS aY vq
 | some o=>
  obtain ⟨to,ZN,acL,IN,-,-⟩:=tP o;have lx:=Xf (.test i (gT l.length (dM p n l) (gy i ws)) (gT l.length (dM p n l) (gx i ws))) o ag (by have:=gh o C;omega);rw [lg,CY,IH,IN] at lx;have wJ:xm (some o) (.test i (gT l.length (dM p n l) (gy i ws)) (gT l.length (dM p n l) (gx i ws)))=if (cv.test i (gT l.length (dM p n l) (gy i ws)) (gT l.length (dM p n l) (gx i ws))).before o then some (.test i (gT l.length (dM p n l) (gy i ws)) (gT l.length (dM p n l) (gx i ws))) else some o:=rfl
  rw [wJ] at ak;have sy:y9 (some o) = .iface to ZN:=IN;rw [sy];cases kF:(cv.test i (gT l.length (dM p n l) (gy i ws)) (gT l.length (dM p n l) (gx i ws))).before o with
  | true=>
   rw [kF] at lx;rw [kF,if_pos C] at ak;refine bZ ?_;exact bn.mk (i+1,some (.test i (gT l.length (dM p n l) (gy i ws)) (gT l.length (dM p n l) (gx i ws))),M2) I ⟨ar,sv,vr.trans tV (Nat.le_refl _),(fun t h=>by cases h;exact OY),ak⟩ OS aY vq
  | false=>
   rw [kF] at lx;rw [kF,if_neg ba] at ak;refine bZ ?_;exact bn.mk (i+1,some o,M2) I ⟨ar,sv,vr.trans tV (Nat.le_refl _),gh,ak⟩ (by repeat (first|exact trivial|refine ⟨⟨_,rfl,aM⟩,?_⟩|refine ⟨⟨_,rfl,aS.of_eq (by (first|rw [jv ag]|exact IN.symm))⟩,?_⟩)) aY vq
end Go.Proofs.YtnafpeohfbglmaaGreat
namespace Go.dv
open Go.Proofs.YtnafpeohfbglmaaGreat
def cv.all (P:List Int→Prop):cv→Prop
 | .leaf ms=>P ms
 | .test _ a b=>a.all P∧b.all P
theorem IP {P:List Int→Prop} (A:Nat) (h:Nat→List Int) (br:P []) (gR:∀ v,P (h v)):∀ (n:Nat) (vs:List Nat),vs.length≤n→(gT A h vs).all P
  | n,vs,az=>by
    rw [HO];split
    · rw [cv.all]
      cases vs with
      | nil=>exact br
      | cons v r=>exact gR v
    · refine Nn (Pr:=fun t=>t.all P) (by rw [cv.all];exact br) (fun _ h=>by cases h) (fun i _ he=>?_)
      have aB:=DO he;cases n with
      | zero=>omega
      | succ n=>
        rw [cv.all];exact ⟨IP A h br gR n _ ag,IP A h br gR n _ ag⟩
theorem IQ:∀ (t:cv) (L:List b7) (j:Nat) (x:b7),L.length≤j→(cv.laid L t)[j]? = some x→x.atom≥0→(j:Int)<x.no∧x.no<(cv.laid L t).length∧(j:Int)<x.yes∧x.yes<(cv.laid L t).length
  | .leaf ms,L,j,x,aK,ab,a8=>by
    rw [cv.laid,List.getElem?_append_right aK] at ab;cases h:j-L.length with
    | zero=>rw [h] at ab;cases ab;simp at a8
    | succ n=>rw [h] at ab;cases ab
  | .test i a b,L,j,x,aK,ab,a8=>by
    have U:=tQ a (L++[⟨i,0,0,[]⟩]);have ae:=tQ b (cv.laid (L++[⟨i,0,0,[]⟩]) a);have k5:=a.rj;have Dt:=b.rj;have bK:(L++[(⟨i,0,0,[]⟩:b7)]).length=L.length+1:=by simp
    rw [bK] at U;have ZO:=IQ a (L++[⟨i,0,0,[]⟩]);have ZP:=IQ b (cv.laid (L++[⟨i,0,0,[]⟩]) a);have su:cv.laid L (.test i a b)=(cv.laid (cv.laid (L++[⟨i,0,0,[]⟩]) a) b).set L.length ⟨i,(L.length:Int)+1,((cv.laid (L++[⟨i,0,0,[]⟩]) a).length:Int),[]⟩:=rfl;rw [su] at ab ⊢;rw [List.length_set];by_cases yG:j=L.length
    · subst yG
      rw [List.getElem?_set_self ag] at ab;cases ab;simp only;omega
    · rw [List.getElem?_set_ne ag] at ab
      by_cases Hn:j<(cv.laid (L++[⟨i,0,0,[]⟩]) a).length
      · rw [Bi b _ j Hn] at ab
        have:=ZO j x ag ab a8;omega
      · have:=ZP j x ag ab a8
        omega
theorem IS {P:List Int→Prop} (br:P []):∀ (t:cv) (L:List b7),t.all P→(∀ x∈L,P x.ms)→∀ x∈cv.laid L t,P x.ms
  | .leaf ms,L,aN,bK,x,ab=>by
    rw [cv.laid] at ab;rcases mem_append.1 ab with ab|ab
    · exact bK x ab
    · rw [mem_singleton.1 ab];exact aN
  | .test i a b,L,aN,bK,x,ab=>by
    have su:cv.laid L (.test i a b)=(cv.laid (cv.laid (L++[⟨i,0,0,[]⟩]) a) b).set L.length ⟨i,(L.length:Int)+1,((cv.laid (L++[⟨i,0,0,[]⟩]) a).length:Int),[]⟩:=rfl;rw [su] at ab;rcases List.mem_or_eq_of_mem_set ab with ab|rfl
    · refine IS br b _ aN.2 (IS br a _ aN.1 (fun y ay=>?_)) x ab
      rcases mem_append.1 ay with ay|ay
      · exact bK y ay
      · rw [mem_singleton.1 ay];exact br
    · exact br
theorem ZQ {t:cv} (aN:t.all (fun ms=>ms.length≤16)) (aB:t.leaves≤500):DU (cv.laid [] t):=by
 have U:=tQ t [];have ae:=t.rj;rw [List.length_nil] at U;exact ⟨by omega,by omega,IS (P:=fun ms=>ms.length≤16) ba t [] aN (fun _ h=>by cases h),fun i x ab a8=>IQ t [] i x (zero_le _) ab a8⟩
theorem ZR {g:List b7} (h:hI g=true):DU g:=by
 obtain ⟨U,ae⟩:=wO h;refine ⟨U,by omega,fun x ab=>?_,fun i x ab a8=>?_⟩
 ·obtain ⟨i,aQ⟩:=List.getElem?_of_mem ab
  have az:=uS h aQ;by_cases a8:x.atom = -1
  ·exact ((nF a8).1 az).2.2.1
  ·have:=((kn a8).1 az).2.2.2.2.2.2
   omega
 ·have:=(kn ag).1 (uS h ab)
  omega
end Go.dv
namespace Go.Proofs.YtnafpeohfbglmaaGreat
open Go.cW Go.dv
theorem ZS (g:List b7) (aw:g.length<bu):aR Tryz.prog 20 [fM g] (.cu [if hI g then .aC 4 ((small g).map eP) .bc else .aC 0 [] .nil,.int .i64 (if hI g then 0 else 2)]):=by
 have aq:=bC;refine aR.bj ai Tryz.func20 C C fun s I=>?_
 have aZ:=Gs g aw;unfold fM at *;cases ir:hI g with
 | false=>
  rw [ir] at aZ;rw [if_neg ba,if_neg ba];refine bZ ?_;exact bm I
 | true=>
  rw [ir] at aZ;rw [if_pos C,if_pos C];have au:=ND g (ZR ir);refine bZ ?_;refine aa.b9 rfl rfl rfl rfl rfl au I .nil ?_ (fun _ _ ⟨h,_⟩ _=>by cases h);rintro _ _ ⟨⟨⟩,rfl⟩ I;simp only [nil_append] at I ⊢;refine eD ?_;exact bm I
def IT (p:bP) (n:Int):af := .cu [if hp p n=0 then .aC 4 ((small (cv.laid [] (HG p n))).map eP) .bc else .aC 0 [] .nil,.int .i64 (hp p n)]
theorem ZT (p:bP) (aE:fN p) (n:Int):aR Tryz.prog 13 [cJ p,.int .i64 n] (IT p n):=by
 have aq:=bC;refine aR.bj ai Tryz.func13 C C fun s I=>?_
 have a8:=D9 p aE n;unfold IT;unfold cJ cL at *;refine dL ?_;refine aa.b9 rfl rfl rfl rfl rfl a8 I .nil ?_ (fun _ _ h _=>by rcases h with ⟨_,_,_,_,h,_⟩|⟨_,⟨_,h⟩,_⟩<;>cases h);rintro _ _ (⟨he,cr,aq,cI,⟨⟩,rfl⟩|⟨he,⟨v,⟨⟩⟩,rfl⟩) I
 ·rw [he,if_pos C,W5]
  obtain ⟨dg,fX,cX,eY,gF⟩:=xz he;have vk:2^(dc p n).length≤2^7:=pow_le_pow_right ag fX;have lb:=Ix p aE dg n (dc p n) aq cI cr fX cX eY gF;have ft:=IA (b6 p) (dc p n);have eL:∀ v∈ka (b6 p) (dc p n),v<2^(dc p n).length:=fun v h=>OH h
  have tS:=(vj dg).1;generalize bK:dc p n=l at *;generalize IU:ka (b6 p) l=vs at *;have BR:=ZJ p n l aq cI cr vs eL fX ag tS vs.length vs (Nat.le_refl _) (jm.all vs) [] (fun _ h=>by cases h);have s4:=Bg l.length (dM p n l) _ vs (Nat.le_refl _);have sE:=IP (P:=fun ms=>ms.length≤16) l.length (dM p n l) ba (fun v=>by have:=BC n l v p.methods 0;unfold dM;omega) _ vs (Nat.le_refl _);generalize gT l.length (dM p n l) vs=t at *;have OZ:=Xg t [] none C cE;have wb:=ZQ sE ag;have ZU:=ND _ wb;simp only [cons_append,nil_append] at I ⊢;unfold ep eh c4 at *;refine bB ?_;refine aa.b9 rfl rfl rfl rfl rfl lb I aY ?_ (fun _ _ ⟨h,_⟩ _=>by cases h);rintro _ _ ⟨⟨⟩,rfl⟩ I;simp only [cons_append,nil_append] at I ⊢
  repeat (first|(refine SU I ?_;clear I;intro I)|refine aa.d' ai I rfl rfl rfl rfl rfl rfl rfl (fun cy I=>?_))
  obtain ⟨ZV,rfl⟩:∃ x,x=cy:=⟨_,rfl⟩;have IK:eS (vs.take 0)=fun _=>false:=rfl
  refine ad.b0 [6,8,27,28] C I (σ:=Nat) (fun j=>[(29,.int .i64 (j:Int))]) (fun j=>(.own ZV,.box 106 [.int .u64 (fY (eS (vs.take j)) 0 64:Nat),.int .u64 (fY (eS (vs.take j)) 64 64:Nat)])::jn p n l aq cI cr vs []) (fun j=>j≤vs.length) (fun j=>vs.length-j) 0 (zero_le _) (ck C) (by
   simp only [IK,BG (fun _=>rfl),jn,ep,eh,c4]
   exact aY) ?_
  rintro j aK I;simp only [jn,ep,eh,c4,iZ] at aK I ⊢;refine b2 ?_;refine ad.cond C (fun ar=>?_) (fun aV=>?_)
  ·have ar:j<vs.length:=by simpa using ar
   obtain ⟨v,av,kz⟩:=bV (f:=fun v:Nat=>af.int .i64 (v:Int)) ar;have IL:v<128:=by have:=eL v (mem_of_getElem? av);omega
   have Em:=OA (eS (vs.take j)) v IL;have hV:(fun u=>eS (vs.take j) u||u==v)=eS (vs.take (j+1)):=by
    funext u;rw [take_add_one,av];unfold eS;rw [List.contains_append];congr 1;simp;rfl
   rw [hV] at Em;unfold kG at Em;refine hl I ?_;intro I;exact bn.mk (j+1) I ar b' aY xo
  have aV:j=vs.length:=by simp at aV;omega
  subst aV;rw [take_length] at I ⊢;unfold jn ep eh c4 kG iZ at BR;unfold kc jE at OZ;refine cG I ?_;intro I;refine aa.b9 rfl rfl rfl rfl rfl BR I aY ?_ (fun _ _ h _=>by obtain ⟨_,_,_,h,_⟩:=h;cases h);rintro _ _ ⟨l',-,-,⟨⟩,rfl⟩ I;simp only [cons_append,nil_append] at I ⊢;skip;refine aa.b9 rfl rfl rfl rfl rfl OZ I .nil ?_ (fun _ _ h _=>by obtain ⟨_,_,h,_⟩:=h;cases h);rintro _ _ ⟨bt,dd,⟨⟩,rfl⟩ I;have my:=tQ t [];have lA:=t.rj;rcases bt with _|⟨g2,gz,gk⟩
  ·have br:cv.laid [] t=[]:=dd
   rw [br] at my;simp at my;omega
  obtain ⟨fs,gD,hs⟩:=dd;simp only [cons_append,nil_append] at I ⊢;refine aa.run ai C ?_;refine aa.nil ?_;refine uD ?_;refine ad.Ig I 11 g2 C a1 hs (by rw [length_map]) (pn _) gD (by have:=wb.len;omega) (fun I=>?_);rw [← DZ];refine jM ?_;refine aa.b9 rfl rfl rfl rfl rfl ZU I .nil ?_ (fun _ _ ⟨h,_⟩ _=>by cases h);rintro _ _ ⟨⟨⟩,rfl⟩ I;simp only [cons_append,nil_append] at I ⊢;refine eD ?_;exact bm I
 ·rw [if_neg he]
  simp only [nil_append] at I ⊢;refine ew ?_;refine ad.cond C (fun _=>?_) (fun h=>absurd fZ he);refine gH ?_;exact bm I
def zb (c:Int):aj := .mk 2 0 [] c 0 []
def ma:bP:=⟨[⟨[],[],[]⟩,⟨[3],[],[]⟩,⟨[],[],[]⟩],0,[1],[⟨1,0,zb 3,0⟩,⟨1,0,zb 4,1⟩,⟨1,0,.mk 6 0 [] 0 0 [zb 1,.mk 3 0 [] 0 5 []],2⟩],[⟨2,0,[]⟩,⟨2,0,[]⟩,⟨2,0,[]⟩,⟨2,0,[]⟩],3⟩
def pt:List b7:=[⟨0,1,4,[]⟩,⟨3,2,3,[]⟩,⟨-1,0,0,[]⟩,⟨-1,0,0,[2]⟩,⟨1,5,6,[]⟩,⟨-1,0,0,[0]⟩,⟨-1,0,0,[0,1]⟩]
theorem O0:hp ma 0=0:=by kernel_rfl
theorem ZW:ka (b6 ma) (dc ma 0)=[0,1,3,4,12]:=by kernel_rfl
theorem ZX:BI ma 0 3=0:=by kernel_rfl
theorem ZY:dM ma 0 (dc ma 0) 3=[0,1]:=by kernel_rfl
theorem ZZ:BI ma 0 2=5:=by kernel_rfl
theorem Z0:small (cv.laid [] (HG ma 0))=pt:=by kernel_rfl
theorem Z1:mI ma [] 0 [(1,4)] pt=0:=by kernel_rfl
theorem Z2:leads pt (oI ma [] 0 [(1,4)])=(3,2):=by kernel_rfl
theorem Z3:lz pt=2:=by kernel_rfl
theorem Z4:hI pt=true:=by kernel_rfl
theorem Z5:small [⟨0,1,2,[]⟩,⟨-1,0,0,[]⟩,⟨-1,0,0,[]⟩]=[⟨0,1,1,[]⟩,⟨-1,0,0,[]⟩]:=by kernel_rfl
theorem Z6:hI [⟨0,1,2,[]⟩,⟨-1,0,0,[]⟩,⟨-1,0,0,[]⟩]=true:=by kernel_rfl
theorem IV (c:Int):aR Tryz.prog 50 [.int .i64 c] ((zb c).bJ):=by
 have aq:=bC;refine aR.bj ai Tryz.func50 C C fun s I=>?_
 rw [aj.bW];unfold zb aj.cells
 repeat (first|(refine Ko I ?_;clear I;intro I)|refine aa.d' ai I rfl rfl rfl rfl rfl rfl rfl (fun cy I=>?_))
 refine Fin.cp I (n5 C C (bp.get a1 I) C) ?_
 repeat (first|exact aM|exact aS.empty|exact aS.bc|refine aS.agg ?_|refine aS.aC ?_|exact cR.nil|refine cR.cons ?_ ?_)
theorem Z7 (u:Unit):aR Tryz.prog 67 [] (fM pt):=by
 have aq:=bC;refine aR.bj ai Tryz.func67 C C fun s I=>?_
 unfold fM;refine gH ?_;refine Fin.cp I C ?_;unfold pt;simp only [map_cons,map_nil,eP,gY,bg,bb]
 repeat (first|exact aM|exact aS.empty|exact aS.bc|refine aS.agg ?_|refine aS.aC ?_|exact cR.nil|refine cR.cons ?_ ?_)
theorem Z8 (u:Unit):aR Tryz.prog 51 [] (cJ ma):=by
 have aq:=bC;refine aR.bj ai Tryz.func51 C C fun s I=>?_
 have U:=IV 1;have an:=IV 3;have bd:=IV 4;rw [aj.bW] at U an bd;unfold aj.cells at U an bd
 repeat (first|(refine SV I ?_;clear I;intro I)|refine aa.d' ai I rfl rfl rfl rfl rfl rfl rfl (fun cy I=>?_)|(refine SW I ?_;clear I;intro I))
 refine Fin.cp I (n5 C C (bp.get a1 I) C) ?_;unfold ma cJ cL;simp only [map_cons,map_nil,lB,nE,ji,m4,jj,k4,bg,bb,aj.path,aj.op,aj.arg,aj.cls,aj.n,aj.kids,aj.bW,aj.cells,zb]
 repeat (first|exact aM|exact aS.empty|exact aS.bc|refine aS.agg ?_|refine aS.aC ?_|exact cR.nil|refine cR.cons ?_ ?_)
theorem BT:fN ma:=⟨by decide,by decide,by decide,by decide,by decide,by decide,by decide⟩
theorem Z9 (u:Unit):aR Tryz.prog 16 [] (.bool true):=by
 have aq:=bC;have U:=Z8 ();have ae:=Y8 ma BT 0;have an:=OI ma BT 0 3;have bd:=OI ma BT 0 2;have bD:=ZT ma BT 0;have fk:=OR ma BT 0 [] [(1,4)] dW (fun _ h=>by cases h) dW pt dW;have ij:=TV pt dW;have p1:=ZS [⟨0,1,2,[]⟩,⟨-1,0,0,[]⟩,⟨-1,0,0,[]⟩] dW;have dE:=Z7 ();have s1:=tt [0,1,3,4,12] [0,1,3,4,12] dW dW;have s2:=tt [0,1] [0,1] dW dW;have Z':=tt [2] [2] dW dW;have g1:=Lu pt pt dW dW dW dW;have g2:=Lu [⟨0,1,1,[]⟩,⟨-1,0,0,[]⟩] [⟨0,1,1,[]⟩,⟨-1,0,0,[]⟩] dW dW dW dW;unfold IC at ae;rw [O0,if_pos C,ZW] at ae;unfold IE at an bd;rw [ZX,if_pos C,show ((3:Int).toNat)=3 from rfl,ZY] at an;rw [ZZ,if_neg dW] at bd;unfold IT at bD;rw [O0,if_pos C,Z0] at bD;unfold y7 at fk;rw [Z1,if_pos C,if_pos C,Z2] at fk;rw [Z4,if_pos C,if_pos C,Z3] at ij;rw [Z6,if_pos C,if_pos C,Z5] at p1;rw [show (([0,1,3,4,12]:List Int)==[0,1,3,4,12])=true from rfl] at s1;rw [show (([0,1]:List Int)==[0,1])=true from rfl] at s2;rw [show (([2]:List Int)==[2])=true from rfl] at Z';rw [show (pt==pt)=true from rfl] at g1;rw [show (([⟨0,1,1,[]⟩,⟨-1,0,0,[]⟩]:List b7)==[⟨0,1,1,[]⟩,⟨-1,0,0,[]⟩])=true from rfl] at g2;refine aR.bj ai Tryz.func16 C C fun s I=>?_
 unfold cJ cL at *;refine ea ?_;refine aa.lY C C C C C s1 (.cons (aS.of_eq C) (.one aS.bc)) ?_;refine dS ?_;refine aa.lY C C C C C s2 (.cons (aS.of_eq C) (.one aS.bc)) ?_;refine n4 ?_;refine aJ.lY C C C C C fk (.cons aM (.cons aS.empty (.cons aM (.cons aS.bc (.one aM))))) ?_;refine c3 ?_
 refine aa.lY C C C C C p1 (.one (by
  unfold fM
  simp only [map_cons,map_nil,eP,gY,bg,bb]
  repeat (first|exact aM|exact aS.empty|exact aS.bc|refine aS.agg ?_|refine aS.aC ?_|exact cR.nil|refine cR.cons ?_ ?_))) ?_
 refine c3 ?_
 refine aa.lY C C C C C g2 (.cons (aS.of_eq C) (.one (by
  unfold fM
  simp only [map_cons,map_nil,eP,gY,bg,bb]
  repeat (first|exact aM|exact aS.empty|exact aS.bc|refine aS.agg ?_|refine aS.aC ?_|exact cR.nil|refine cR.cons ?_ ?_)))) ?_
 refine eD ?_;exact bm I
def Es (g:List b7):Bool:=decide (g.length>400)||g.any (fun x=>decide (x.ms.length>40))
theorem aaa (g:List b7) (aw:g.length<bu):aR Tryz.prog 17 [fM g] (.bool (Es g)):=by
 have aq:=bC;refine aR.bj ai Tryz.func17 C C fun s I=>?_
 have bK:Es g=(decide (g.length>400)||g.any (fun x=>decide (x.ms.length>40))):=rfl;unfold fM;refine b2 ?_;refine ad.cond C (fun h=>?_) (fun h=>?_)
 ·rw [show decide (g.length>400)=true by simp at h ⊢;omega,Bool.true_or] at bK
  rw [bK];refine gH ?_;exact bm I
 rw [show decide (g.length>400)=false by simp at h ⊢;omega,Bool.false_or] at bK;rw [bK];refine jh ?_;refine ad.b0 [0] C I (σ:=Nat) (fun j=>[(3,.int .i64 (j:Int))]) (fun _=>[]) (fun j=>j≤g.length∧g.any (fun x=>decide (x.ms.length>40))=(g.drop j).any (fun x=>decide (x.ms.length>40))) (fun j=>g.length-j) 0 ⟨zero_le _,rfl⟩ (ck C) .nil ?_;rintro j ⟨aK,ak⟩ I
 try simp only at aK ak I ⊢
 refine b2 ?_;refine ad.cond C (fun ar=>?_) (fun aV=>?_);rotate_left
 ·have aV:j=g.length:=by simp at aV;omega
  rw [ef ag,any_nil] at ak;rw [ak];refine dB ?_;exact bm I
 have ar:j<g.length:=by simpa using ar
 obtain ⟨x,ab,bL⟩:=bV (f:=eP) ar;rw [drop_cons ab,any_cons] at ak;unfold eP gY bg at bL;refine dC ?_;refine ad.cond C (fun aA=>?_) (fun aA=>?_)
 ·rw [show decide (x.ms.length>40)=true by simp at aA ⊢;omega,Bool.true_or] at ak
  rw [ak];refine jg ?_;exact bm I
 ·rw [show decide (x.ms.length>40)=false by simp at aA ⊢;omega,Bool.false_or] at ak
  refine fR ?_;exact bn.mk (j+1) I ⟨ar,ak⟩ b' .nil tg
theorem O1 (a b:aj) (a8:a.kids=[]) (dO:b.kids=[]) (Nq:a.path.length<bu) (dg:b.path.length<bu):aR Tryz.prog 84 [a.bJ,b.bJ] (.bool (fy a b)):=by
 have aq:=bC;refine aR.bj ai Tryz.func84 C C fun s I=>?_
 obtain ⟨o,x,p,c,n,ks⟩:=a;obtain ⟨o',oL,bk,o0,n',C4⟩:=b;simp only [aj.kids] at a8 dO;subst a8;subst dO;have U:=tt p bk Nq dg;have he:fy (.mk o x p c n []) (.mk o' oL bk o0 n' [])=(decide (o=o')&&(decide (x=oL)&&(decide (c=o0)&&(decide (n=n')&&p==bk)))):=rfl;simp only [aj.bW,aj.cells,aj.op,aj.arg,aj.path,aj.cls,aj.n,aj.kids,map_nil];unfold bg bb at U;cases au:decide (o=o')&&(decide (x=oL)&&(decide (c=o0)&&(decide (n=n')&&p==bk))) with
 | false=>
  rw [he,au];clear he
  repeat' (first|(with_reducible first|apply ad.seq|apply bY|apply fm|apply ad.ret|apply ad.skip|apply ad.block)|refine cT C ?_|refine ad.cB ?_|refine aa.nil ?_|refine ad.e8 C ?_|refine ad.gr C ?_|refine cx C ?_|refine aa.skip C C C ?_|refine aa.dQ C C C C C ch ?_|(fail_if_success refine aa.same true C ?_);(fail_if_success refine aa.same false C ?_);refine aa.gA C C (fun h=>?_) (fun h=>?_))
  all_goals (try (refine Fin.cp I C ?_;exact aM))
  all_goals (exfalso;clear I;grind)
 | true=>
  rw [he,au];simp only [and_eq_true,decide_eq_true_eq,beq_iff_eq] at au;obtain ⟨rfl,rfl,rfl,rfl,rfl⟩:=au;rw [show (p==p)=true from beq_iff_eq.2 C] at U;refine dL ?_;refine aa.c2 11 C ba ?_;refine dS ?_;refine aa.c2 18 C ba ?_;refine dS ?_;refine aa.c2 25 C ba ?_;refine dS ?_;refine aa.c2 32 C ba ?_;refine bZ ?_;refine ad.b0 [51] C I (σ:=Nat) (fun j=>[(52,.int .i64 (j:Int))]) (fun _=>[]) (fun j=>j=0) (fun j=>0) 0 C (ck C) .nil ?_;rintro j rfl I
  try simp only at I ⊢
  refine bB ?_;exact bm I
theorem sD {w:bx} {f:aj} (h:gi w f=true) (aB:f.cU=true):f.kids=[]:=by
 rw [m0,and_eq_true] at h;have h:=h.1;unfold h3 at h;simp only [and_eq_true,decide_eq_true_eq] at h;have aD:=h.2.2.1;have:pQ f.op=0:=by
  unfold aj.cU at aB;simp only [and_eq_true,decide_eq_true_eq] at aB;unfold pQ;grind
 rw [this] at aD;exact List.eq_nil_of_length_eq_zero aD
theorem IW (v i:Nat) (av:v<2^63) (aQ:i<64):aR Tryz.prog 126 [.int .i64 (v:Int),.int .i64 (i:Int)] (.bool (v.testBit i)):=by
 have aq:=bC;refine aR.bj ai Tryz.func126 C C fun s I=>?_
 have p4:((((v >>> i) &&& 1:Nat):Int)==1)=v.testBit i:=Bd v i;refine dL ?_;refine aa.shr _ C C C C C C ag (tn ag) ?_;refine aa.bits _ C C C C C C (Ae (n:=1) (Nat.lt_of_le_of_lt (Nat.shiftRight_le v i) av) ag) ?_;refine eD ?_;exact Fin.cp I C (aS.of_eq (congrArg af.bool p4))
theorem aab (f:aj):aR Tryz.prog 189 [f.bJ] (.bool f.cU):=by
 have aq:=bC;refine aR.bj ai Tryz.func189 C C fun s I=>?_
 rw [aj.bW]
 repeat' (first|(with_reducible first|apply ad.seq|apply bY|apply ad.ret)|refine cT C ?_|refine ad.cB ?_|refine aa.nil ?_|refine cx C ?_|refine aa.skip C C C ?_|(fail_if_success refine aa.same true C ?_);(fail_if_success refine aa.same false C ?_);refine aa.gA C C (fun h=>?_) (fun h=>?_))
 all_goals (refine Fin.cp I C (aS.of_eq (congrArg af.bool ?_));clear I;unfold aj.cU;grind)
theorem aac (w:bx) (l:List aj) (f:aj) (aB:iY w l) (az:l.length<bu) (aZ:gi w f=true∧f.cU=true):aR Tryz.prog 190 [c4 l,f.bJ] (.bool (l.any fun x=>fy x f)):=by
 have aq:=bC;refine aR.bj ai Tryz.func190 C C fun s I=>?_
 have aD:=sD aZ.1 aZ.2;have aE:=rv aZ.1 aZ.2;unfold c4;rw [aj.bW];unfold aj.cells;refine gg ?_;refine ad.b0 [0,3] C I (σ:=Nat) (fun j=>[(5,.int .i64 (j:Int))]) (fun _=>[]) (fun j=>j≤l.length∧(l.any fun x=>fy x f)=(l.drop j).any fun x=>fy x f) (fun j=>l.length-j) 0 ⟨zero_le _,rfl⟩ (ck C) aY ?_;rintro j ⟨aK,ak⟩ I
 try simp only at aK ak I ⊢
 refine b2 ?_;refine ad.cond C (fun ar=>?_) (fun aV=>?_);rotate_left
 ·have aV:j=l.length:=by simp at aV;omega
  rw [ef ag,any_nil] at ak;rw [ak];refine dB ?_;exact bm I
 have ar:j<l.length:=by simpa using ar
 obtain ⟨x,ab,bL⟩:=bV (f:=aj.bJ) ar;have Et:=aB x (mem_of_getElem? ab);have kR:=O1 x f (sD Et.1 Et.2) aD (by have:=rv Et.1 Et.2;omega) ag;rw [drop_cons ab,any_cons] at ak;rw [aj.bW] at bL;rw [aj.bW,aj.bW] at kR;unfold aj.cells at bL kR;cases aA:fy x f with
 | true=>
  rw [aA] at kR ak;rw [ak];refine bZ ?_;exact bm I
 | false=>
  rw [aA] at kR ak;refine bZ ?_;exact bn.mk (j+1) I ⟨ar,ak⟩ b' aY l3
theorem aad (l:List aj) (x:aj) (r:List aj):(j' (x::r)).foldl hA l=(j' r).foldl hA ((iy x).foldl hA l):=by
 rw [j',List.foldl_append]
mutual
theorem O2:∀ f:aj,(iy f).length≤f.size
  | .mk o a p c n ks=>by
    have h:=O3 ks;have e:=(aj.mk o a p c n ks).size_eq;have yz:(aj.mk o a p c n ks).kids=ks:=rfl;rw [yz] at e;rw [iy];split
    · simp;omega
    · omega
theorem O3:∀ l:List aj,(j' l).length≤aj.hv l
  | []=>zero_le _
  | x::r=>by
    have U:=O2 x;have ae:=O3 r;rw [j',aj.hv,length_append];omega
end
def Eu (own:bM) (l:List aj):a':=[(own,.row 58 6 l.length)]
def Ev (own:bM) (l:List aj):af := .aC 6 (l.map aj.bJ) own
theorem aae (w:bx):∀ (k:Nat) (f:aj),f.size≤k→gi w f=true→∀ (l:List aj) (own:bM),iY w l→l.length+f.size<bu →
  bE Tryz.prog 153 [Ev own l,f.bJ] (Eu own l) (fun o K=>∃ cQ,o = .ret (Ev cQ ((iy f).foldl hA l))∧K=Eu cQ ((iy f).foldl hA l)):=by
 have aq:=bC;intro k
 induction k with
 | zero=>intro f h;have:=f.size_eq;omega
 | succ k a6=>
  intro f aD aw l own aB hlen;have iv:=f.size_eq;have lb:=aj.pP f.kids;have y5:=aw;rw [m0,and_eq_true] at aw;have U:=aab f;refine bE.bj ai Tryz.func153 C C fun s I=>?_
  unfold Ev Eu at *;rw [DK];cases hK:f.cU with
  | true=>
   have yz:=sD y5 hK;have ae:=aac w l f aB ag ⟨y5,hK⟩;have aQ:[f].foldl hA l=if l.any (fun x=>fy x f) then l else l++[f]:=rfl
   rw [if_pos C,aQ];rw [hK] at U;unfold c4 at ae;rw [aj.bW] at U ae ⊢;unfold aj.cells at *;rw [yz] at U ae ⊢;cases aA:l.any (fun x=>fy x f) with
   | true=>
    rw [aA] at ae;rw [if_pos C];refine bZ ?_;refine ad.b0 [0,3] C I (σ:=Nat) (fun j=>[(5,.int .i64 (j:Int))]) (fun _=>[(own,.row 58 6 l.length)]) (fun j=>j=0) (fun j=>0) 0 C (ck C) (aH.du _) ?_;rintro j rfl I
    try simp only at I ⊢
    refine bB ?_;exact Fin.bz (K:=[(own,.row 58 6 l.length)]) I C aM (aH.du _) ⟨own,rfl,rfl⟩
   | false=>
    rw [aA] at ae;rw [if_neg ba];refine bZ ?_;refine aa.gf ai I C C C C C C C et C C C C C C C C a1 hc yX ag (fun bR I=>?_);have b1:l.map aj.bJ++[af.agg [.int .i64 f.op,.int .i64 f.arg,.aC 1 (f.path.map fun i => .int .i64 i) .bc,.int .i64 f.cls,.int .i64 f.n,.aC 6 (List.map aj.bJ []) .bc]]=(l++[f]).map aj.bJ:=by
     rw [map_append,map_cons,map_nil,aj.bW];unfold aj.cells;rw [yz];rfl
    rw [b1];refine bB ?_;refine ad.b0 [0,3] C I (σ:=Nat) (fun j=>[(5,.int .i64 (j:Int))]) (fun _=>[((.own bR),.row 58 6 (l++[f]).length)]) (fun j=>j=0) (fun j=>0) 0 C (ck C) (by rw [length_append];exact aH.du _) ?_;rintro j rfl I
    try simp only at I ⊢
    refine bB ?_;exact Fin.bz (K:=[((.own bR),.row 58 6 (l++[f]).length)]) I C aM (aH.du _) ⟨(.own bR),rfl,rfl⟩
  | false=>
   rw [if_neg ba];rw [hK] at U;rw [aj.bW] at U ⊢;unfold aj.cells at *;refine bZ ?_;refine ad.b0 [3] C I (σ:=Nat×List aj×bM) (fun q=>[(5,.int .i64 (q.1:Int)),(0,.aC 6 (q.2.1.map aj.bJ) q.2.2)]) (fun q=>[(q.2.2,.row 58 6 q.2.1.length)]) (fun q=>q.1≤f.kids.length∧(j' f.kids).foldl hA l=(j' (f.kids.drop q.1)).foldl hA q.2.1∧iY w q.2.1∧q.2.1.length+aj.hv (f.kids.drop q.1)<bu) (fun q=>f.kids.length-q.1) (0,l,own) ⟨zero_le _,rfl,aB,by show l.length+aj.hv f.kids<bu;omega⟩ (ck C) (aH.du _) ?_;rintro ⟨j,c,pc⟩ ⟨aK,ak,aA,ct⟩ I
   try simp only at aK ak aA ct I ⊢
   refine b2 ?_;refine ad.cond C (fun ar=>?_) (fun aV=>?_);rotate_left
   ·have aV:j=f.kids.length:=by simp at aV;omega
    rw [ef ag,j',foldl_nil] at ak;rw [ak];refine dB ?_;exact Fin.bz (K:=[(pc,.row 58 6 c.length)]) I C aM (aH.du _) ⟨pc,rfl,rfl⟩
   have ar:j<f.kids.length:=by simpa using ar
   obtain ⟨x,ab,bL⟩:=bV (f:=aj.bJ) ar;have y4:=jy aw.2 (mem_of_getElem? ab);have cY:=aj.hx (mem_of_getElem? ab);rw [drop_cons ab,aj.hv] at ct;rw [drop_cons ab,aad] at ak;have i1:=a6 x ag y4 c pc aA ag;have aI:=Ip (w:=w) 0 (iy x) c aA (D6 x w y4);have ca:=O2 x;rw [aj.bW] at i1 bL;unfold aj.cells at i1 bL;refine dC ?_;refine aa.b9 rfl rfl rfl rfl rfl i1 I (aH.du _) ?_ (fun _ _ h _=>by obtain ⟨_,h,_⟩:=h;cases h);rintro _ _ ⟨bR,⟨⟩,rfl⟩ I;simp only [append_nil,cons_append,nil_append] at I ⊢;refine fu ?_;exact bn.mk (j+1,(iy x).foldl hA c,bR) I ⟨ar,ak,aI.1,by show ((iy x).foldl hA c).length+aj.hv (f.kids.drop (j+1))<bu;omega⟩ b' (aH.du _) yB
theorem BU (p:bP) (aE:fN p) (dg:fG p=true) (n:Int):aR Tryz.prog 112 [cJ p,.int .i64 n] (c4 (dc p n)):=by
 have aq:=bC;have hy:=(vj dg).1;have U:=fun (f:aj) aw l own aB hlen=>aae (b6 p) f.size f (Nat.le_refl _) aw l own aB hlen
 have wu:∀ j,(p.methods.take j).foldl (ih n) []=(p.methods.take j).foldl (ih n) []:=fun _=>rfl
 refine aR.bj ai Tryz.func112 C C fun s I=>?_
 unfold cJ cL c4 Ev Eu at *;refine gg ?_;refine ad.h2 I 58 6 0 fun I=>?_
 refine ad.b0 [1,2] C I (σ:=Nat×bM) (fun q=>[(6,.int .i64 (q.1:Int)),(5,.aC 6 (((p.methods.take q.1).foldl (ih n) []).map aj.bJ) q.2)]) (fun q=>[(q.2,.row 58 6 ((p.methods.take q.1).foldl (ih n) []).length)]) (fun q=>q.1≤p.methods.length) (fun q=>p.methods.length-q.1) (0,.nil) (zero_le _) ⟨⟨_,rfl,aM⟩,⟨_,rfl,aS.nil gW⟩,trivial⟩ (aH.du _) ?_;rintro ⟨j,own⟩ aK I;simp only at aK I ⊢;refine b2 ?_;refine ad.cond C (fun ar=>?_) (fun aV=>?_);rotate_left
 ·have aV:j=p.methods.length:=by simp at aV;omega
  subst aV;rw [take_length];refine dB ?_;exact Fin.cp I C aS.bc
 have ar:j<p.methods.length:=by simpa using ar
 obtain ⟨m,ab,bL⟩:=bV (f:=lB) ar;have xZ:=mem_of_getElem? ab;have aaf:=By dg xZ;have pA:=Iq dg n (p.methods.take j) [] (fun m hm=>List.mem_of_mem_take hm) (fun _ h=>by cases h);have wI:(p.methods.take j).length≤16:=by rw [length_take];omega
 have tJ:=aE.facts m xZ;have aI:(p.methods.take (j+1)).foldl (ih n) []=ih n ((p.methods.take j).foldl (ih n) []) m:=by rw [iH ab,List.foldl_append];rfl
 have U:=U m.fact (rW _ _ _ _ aaf) ((p.methods.take j).foldl (ih n) []) own pA.1 (by have:=pA.2;simp only [List.length_nil] at this;omega);generalize (p.methods.take j).foldl (ih n) []=c at *;rw [show ih n c m=if m.gen=n then (iy m.fact).foldl hA c else c from rfl] at aI;rw [aj.bW] at U;unfold aj.cells at U;unfold lB nE at bL;refine dC ?_;refine ad.cond C (fun aw=>?_) (fun aw=>?_);rotate_left
 ·rw [if_neg (by simpa using aw)] at aI
  refine fR ?_;exact bn.mk (j+1,own) I ar OT (by simp only [aI];exact aH.du _) oz
 rw [if_pos (by simpa using aw)] at aI;refine dC ?_;refine aa.b9 rfl rfl rfl rfl rfl U I (aH.du _) ?_ (fun _ _ h _=>by obtain ⟨_,h,_⟩:=h;cases h);rintro _ _ ⟨bR,⟨⟩,rfl⟩ I;simp only [append_nil,cons_append,nil_append] at I ⊢;refine fu ?_;exact bn.mk (j+1,bR) I ar OT (by simp only [aI];exact aH.du _) oz
def nO (w:bx) (L:List cg):Prop:=L.length<4096∧tK w L
theorem nO.at {w:bx} {L:List cg} (h:nO w L) {x:cg} (ab:x∈L):x.1.cU=true∧x.1.path.length≤2 ∧ -1000000000≤x.1.n∧x.1.n≤1000000000∧(x.1.op=2→0≤x.1.cls∧x.1.cls<3+(w.ps.length:Int)):=by
 obtain ⟨az,aB⟩:=h.2 x ab;refine ⟨aB,(DA az aB).1,?_⟩;simp only [h3,aB,if_true,and_eq_true,decide_eq_true_eq] at az;have ae:=az.2.2.2.2.2.2.2;unfold km at ae;by_cases an:x.1.op=2
 ·rw [if_pos an] at ae
  simp only [and_eq_true,decide_eq_true_eq] at ae;exact ⟨by omega,by omega,fun _=>ae.2⟩
 ·rw [if_neg an] at ae
  simp only [and_eq_true,decide_eq_true_eq] at ae;exact ⟨by omega,by omega,fun h=>absurd h an⟩
theorem nO.on {w:bx} {L:List cg} (h:nO w L) (arg:Int) (path:List Int):nO w (fr L arg path):=
 ⟨Nat.lt_of_le_of_lt (length_filter_le _ _) h.1,fun x ab=>h.2 x (mem_filter.1 ab).1⟩
theorem aag (L:List cg) (arg:Int) (path:List Int):(fr L arg path).length≤L.length:=length_filter_le _ _
theorem aah {L:List cg} {j:Nat} {x:cg} (h:L[j]? = some x) (q:cg→Bool):(L.take (j+1)).filter q=(L.take j).filter q++(if q x then [x] else []):=by
 rw [iH h,List.filter_append];congr 1;by_cases bq:q x=true
 ·rw [if_pos bq,filter_cons,if_pos bq];rfl
 ·rw [if_neg bq,filter_cons,if_neg bq];rfl
theorem IX (w:bx) (L:List cg) (arg:Int) (path:List Int) (bK:nO w L) (aE:path.length≤3):aR Tryz.prog 212 [kP w L arg path] (oq (fr L arg path)):=by
 have aq:=bC;have O4:=bK.1;refine aR.bj ai Tryz.func212 C C fun s I=>?_
 obtain ⟨xs,cY⟩:∃ xs:Nat→List af,∀ j,xs j=(fr (L.take j) arg path).map (fun x=>(ix x).bJ):=⟨_,fun _=>rfl⟩;have br:xs 0=[]:=by rw [cY];rfl
 have yv:∀ j,(xs j).length≤L.length:=fun j=>by
  rw [cY,length_map];refine Nat.le_trans (aag _ _ _) ?_;rw [length_take];omega
 unfold kP oq cV bg;refine gg ?_;refine ad.h2 I 58 6 0 fun I=>?_
 refine ad.b0 [1,9,10] C I (σ:=Nat×bM) (fun q=>[(11,.int .i64 (q.1:Int)),(3,.aC 6 (xs q.1) q.2)]) (fun q=>[(q.2,.row 58 6 (xs q.1).length)]) (fun q=>q.1≤L.length) (fun q=>L.length-q.1) (0,.nil) (zero_le _) ⟨⟨_,rfl,aM⟩,⟨_,rfl,by rw [br];exact aS.nil gW⟩,trivial⟩ uR ?_;rintro ⟨j,own⟩ aK I;simp only at aK I ⊢;refine b2 ?_;refine ad.cond C (fun ar=>?_) (fun aV=>?_);rotate_left
 ·have aV:j=L.length:=by simp at aV;omega
  subst aV;have he:xs L.length=(fr L arg path).map (fun x=>(ix x).bJ):=by rw [cY,take_length]
  rw [he];refine dB ?_;exact Fin.cp I C aS.bc
 have ar:j<L.length:=by simpa using ar
 obtain ⟨x,ab,bL⟩:=bV (f:=fun x:cg=>(ix x).bJ) ar;have e7:=bK.at (mem_of_getElem? ab);have dn:=yI x e7.1;have bL:(L.map fun x=>(ix x).bJ)[j]? = some (ix x).bJ:=bL;rw [aj.bW] at bL;simp only [aj.bW] at dn;have IY:=tt x.1.path path (by have:=e7.2.1;omega) ag;have au:=cY (j+1);have lp:=yv j;unfold fr at au;rw [aah ab] at au;unfold aj.cells at bL dn;unfold bg at IY;refine ea ?_;by_cases a8:x.1.arg=arg;rotate_left
 ·have aZ:sh arg path x=false:=by unfold sh;rw [decide_eq_false a8];rfl
  rw [aZ,if_neg ba,append_nil] at au;have au:xs (j+1)=xs j:=by rw [au,cY];rfl
  refine aa.c2 25 C w3 ?_;refine bB ?_;exact bn.mk (j+1,own) I ar j1 yk y8
 refine aa.ds 25 C w3 ?_;cases bq:x.1.path==path with
 | false=>
  have aZ:sh arg path x=false:=by unfold sh;rw [bq,Bool.and_false]
  rw [aZ,if_neg ba,append_nil] at au;have au:xs (j+1)=xs j:=by rw [au,cY];rfl
  rw [bq] at IY;refine bZ ?_;exact bn.mk (j+1,own) I ar j1 yk y8
 | true=>
  have aZ:sh arg path x=true:=by unfold sh;rw [bq,decide_eq_true a8];rfl
  rw [aZ,if_pos C,map_append] at au;have au:xs (j+1)=xs j++[(ix x).bJ]:=by rw [au,cY];rfl
  rw [aj.bW] at au;unfold aj.cells at au;have dd:(xs (j+1)).length=(xs j).length+1:=by rw [au];simp
  rw [bq] at IY;refine c3 ?_;refine aa.gf ai I C C C C C C C et C C C C C C C C a1 hc yX ag (fun bR I=>?_);refine fu ?_;exact bn.mk (j+1,.own bR) I ar j1 tw y8
theorem O5 (w:bx) (L:List cg) (arg:Int) (path:List Int) (bK:nO w L) (aE:path.length≤3):aR Tryz.prog 217 [kP w L arg path] (.bool (lH L arg path)):=by
 have aq:=bC;refine aR.bj ai Tryz.func217 C C fun s I=>?_
 have O4:=bK.1;have cH:lH L arg path = !L.any fun x => !x.2&&ld arg path x:=rfl
 unfold kP oq cV bg;refine gg ?_;refine ad.b0 [1,8,9] C I (σ:=Nat) (fun j=>[(10,.int .i64 (j:Int))]) (fun _=>[]) (fun j=>j≤L.length∧(L.any fun x => !x.2&&ld arg path x)=(L.drop j).any fun x => !x.2&&ld arg path x) (fun j=>L.length-j) 0 ⟨zero_le _,rfl⟩ (ck C) aY ?_;rintro j ⟨aK,ak⟩ I
 try simp only at aK ak I ⊢
 refine b2 ?_;refine ad.cond C (fun ar=>?_) (fun aV=>?_);rotate_left
 ·have aV:j=L.length:=by simp at aV;omega
  rw [ef ag,any_nil] at ak;rw [cH,ak];refine dB ?_;exact bm I
 have ar:j<L.length:=by simpa using ar
 obtain ⟨x,ab,bL⟩:=bV (f:=fun x:cg=>(ix x).bJ) ar;have e7:=bK.at (mem_of_getElem? ab);have dn:=yI x e7.1;have bL:(L.map fun x=>(ix x).bJ)[j]? = some (ix x).bJ:=bL;rw [aj.bW] at bL;simp only [aj.bW] at dn;have zd:=MR x.1.path path (by have:=e7.2.1;omega) ag;rw [drop_cons ab,any_cons] at ak;rw [show ld arg path x=(decide (x.1.arg=arg)&&u4 x.1.path path) from rfl] at ak;unfold aj.cells at bL dn;unfold bg at zd;cases az:x.2 with
 | true=>
  rw [az] at dn ak;refine ea ?_;exact bn.mk (j+1) I ⟨ar,by rw [ak];rfl⟩ b' aY y8
 | false=>
  rw [az] at dn ak;refine ea ?_;by_cases a8:x.1.arg=arg;rotate_left
  ·rw [decide_eq_false a8] at ak
   refine aa.c2 28 C w3 ?_;refine bB ?_;exact bn.mk (j+1) I ⟨ar,by rw [ak];rfl⟩ b' aY y8
  refine aa.ds 28 C w3 ?_;rw [decide_eq_true a8] at ak;cases bq:u4 x.1.path path with
  | false=>
   rw [bq] at zd ak;refine bZ ?_;exact bn.mk (j+1) I ⟨ar,by rw [ak];rfl⟩ b' aY y8
  | true=>
   rw [bq] at zd ak;rw [cH,ak];refine bZ ?_;exact bm I
theorem O6 (w:bx) (hw:w.owner.length≤40) (L:List cg) (arg:Int) (path:List Int) (bK:nO w L) (aE:path.length≤2):aR Tryz.prog 215 [kP w L arg path] (bg (jR w.owner.length L arg path)):=by
 have aq:=bC;have O4:=bK.1;refine aR.bj ai Tryz.func215 C C fun s I=>?_
 obtain ⟨xs,cY⟩:∃ xs:Nat→List af,∀ j,xs j=(jR j L arg path).map bb:=⟨_,fun _=>rfl⟩;have br:xs 0=[]:=by rw [cY];rfl
 have e7:∀ j,(xs j).length≤j:=fun j=>by
  rw [cY,length_map];unfold jR;rw [length_map];refine Nat.le_trans (length_filter_le _ _) (Nat.le_of_eq length_range)
 have vl:∀ j,xs (j+1)=xs j++(if na L arg path (j:Nat) then [.int .i64 (j:Nat)] else []):=fun j=>by
  rw [cY,cY];unfold jR;rw [List.range_succ,List.filter_append,map_append,map_append];congr 1;cases h:na L arg path (j:Nat) with
  | true=>rw [filter_cons,if_pos (by exact h)];rfl
  | false=>rw [filter_cons,if_neg (by rw [h];simp)];rfl
 have kK:=fun k:Nat=>Hs w L arg path (k:Int) ag
 have lA:∀ k:Nat,(path++[(k:Int)]).length≤3:=fun k=>by rw [length_append];simp;omega
 unfold kP oq cV bg at *;refine gg ?_;refine ad.h2 I 3 1 0 fun I=>?_
 refine ad.b0 [1,13] C I (σ:=Nat×bM) (fun q=>[(14,.int .i64 (q.1:Int)),(3,.aC 1 (xs q.1) q.2)]) (fun q=>[(q.2,.row 3 1 (xs q.1).length)]) (fun q=>q.1≤w.owner.length) (fun q=>w.owner.length-q.1) (0,.nil) (zero_le _) ⟨⟨_,rfl,aM⟩,⟨_,rfl,by rw [br];exact aS.nil gW⟩,trivial⟩ uR ?_;rintro ⟨j,own⟩ aK I;simp only at aK I ⊢;refine b2 ?_;refine ad.cond C (fun ar=>?_) (fun aV=>?_);rotate_left
 ·have aV:j=w.owner.length:=by simp at aV;omega
  subst aV;rw [cY];refine dB ?_;exact Fin.cp I C aS.bc
 have ar:j<w.owner.length:=by simpa using ar
 have au:=vl j;have lp:=e7 j;have w6:=lA j;have kK:=kK j;refine jh ?_;refine ad.b0 [1,3,4,13,14,18,19] C I (σ:=Nat) (fun k=>[(20,.int .i64 (k:Int)),(5,.bool ((L.take k).any (ld arg (path++[(j:Int)]))))]) (fun _=>[(own,.row 3 1 (xs j).length)]) (fun k=>k≤L.length) (fun k=>L.length-k) 0 (zero_le _) (ck C) (aH.du _) ?_;rintro k aD I
 try simp only at aD I ⊢
 refine b2 ?_;refine ad.cond C (fun cC=>?_) (fun dm=>?_);rotate_left
 ·have dm:k=L.length:=by simp at dm;omega
  subst dm;rw [take_length];have aN:na L arg path (j:Nat)=L.any (ld arg (path++[(j:Int)])):=rfl;rw [aN] at au;cases aA:L.any (ld arg (path++[(j:Int)])) with
  | false=>
   rw [aA,if_neg ba,append_nil] at au;refine bB ?_;exact bn.mk (j+1,own) I ar j1 yk ym
  | true=>
   rw [aA,if_pos C] at au;have dd:(xs (j+1)).length=(xs j).length+1:=by rw [au];simp
   refine bB ?_;refine aa.gf ai I C C C C C C C et C C C C C C C C a1 hc j2 ag (fun bR I=>?_);refine fu ?_;exact bn.mk (j+1,.own bR) I ar j1 tw ym
 have cC:k<L.length:=by simpa using cC
 obtain ⟨x,ab,bL⟩:=bV (f:=fun x:cg=>(ix x).bJ) cC;have e7:=bK.at (mem_of_getElem? ab);have dn:=yI x e7.1;have bL:(L.map fun x=>(ix x).bJ)[k]? = some (ix x).bJ:=bL;rw [aj.bW] at bL;simp only [aj.bW] at dn;have zd:=MR x.1.path (path++[(j:Int)]) (by have:=e7.2.1;omega) ag;have sE:(L.take (k+1)).any (ld arg (path++[(j:Int)]))=((L.take k).any (ld arg (path++[(j:Int)]))||ld arg (path++[(j:Int)]) x):=by rw [iH ab,List.any_append];simp
 unfold aj.cells at bL dn;unfold bg bb at *;cases aA:(L.take k).any (ld arg (path++[(j:Int)])) with
 | true=>
  rw [aA,Bool.true_or] at sE;refine ea ?_;exact bn.mk (k+1) I cC Ej (aH.du _) Ek
 | false=>
  rw [aA,Bool.false_or] at sE;rw [show ld arg (path++[(j:Int)]) x=(decide (x.1.arg=arg)&&u4 x.1.path (path++[(j:Int)])) from rfl] at sE;refine ea ?_;by_cases a8:x.1.arg=arg;rotate_left
  ·rw [decide_eq_false a8,Bool.false_and] at sE
   refine aJ.split 36 C (fun h=>absurd fZ a8) (fun _=>?_);refine jN ?_;exact bn.mk (k+1) I cC Ej (aH.du _) Ek
  rw [decide_eq_true a8,Bool.true_and] at sE;refine aJ.split 36 C (fun _=>?_) (fun h=>absurd a8 fZ);cases bq:u4 x.1.path (path++[(j:Int)]) with
  | false=>
   rw [bq] at zd sE;refine bZ ?_;exact bn.mk (k+1) I cC Ej (aH.du _) Ek
  | true=>
   rw [bq] at zd sE;refine bZ ?_;exact bn.mk (k+1) I cC Ej (aH.du _) Ek
theorem O7 (w:bx) (hw:w.owner.length≤40) (L:List cg) (arg:Int) (path:List Int) (bK:nO w L) (aE:path.length≤2):aR Tryz.prog 214 [kP w L arg path] (.bool (tL w.owner.length L arg path)):=by
 have aq:=bC;refine aR.bj ai Tryz.func214 C C fun s I=>?_
 have U:=O6 w hw L arg path bK aE;have dH:tL w.owner.length L arg path=(jR w.owner.length L arg path).all fun s=>lH L arg (path++[s]):=rfl
 have kK:=fun k:Int=>Hs w L arg path k ag
 have lA:∀ k:Int,(path++[k]).length≤3:=fun k=>by rw [length_append];simp;omega
 have h7:=fun k:Int=>O5 w L arg (path++[k]) bK (lA k)
 have my:(jR w.owner.length L arg path).length≤40:=by
  unfold jR;rw [length_map];have:=length_filter_le (fun s:Nat=>na L arg path (s:Nat)) (range w.owner.length);rw [length_range] at this;omega
 generalize jR w.owner.length L arg path=l at U dH my;rw [dH];unfold kP oq cV bg at *;refine bZ ?_;refine ad.b0 [1,6,7] C I (σ:=Nat) (fun j=>[(8,.int .i64 (j:Int))]) (fun _=>[]) (fun j=>j≤l.length∧(l.all fun s=>lH L arg (path++[s]))=(l.drop j).all fun s=>lH L arg (path++[s])) (fun j=>l.length-j) 0 ⟨zero_le _,rfl⟩ (ck C) aY ?_;rintro j ⟨aK,ak⟩ I
 try simp only at aK ak I ⊢
 refine b2 ?_;refine ad.cond C (fun ar=>?_) (fun aV=>?_);rotate_left
 ·have aV:j=l.length:=by simp at aV;omega
  rw [ef ag,all_nil] at ak;rw [ak];refine dB ?_;exact bm I
 have ar:j<l.length:=by simpa using ar
 obtain ⟨x,ab,bL⟩:=bV (f:=bb) ar;rw [drop_cons ab,all_cons] at ak;have kK:=kK x;have h7:=h7 x;unfold bb at *;cases aA:lH L arg (path++[x]) with
 | false=>
  rw [aA] at h7 ak;rw [ak];refine bZ ?_;exact bm I
 | true=>
  rw [aA] at h7 ak;refine bZ ?_;exact bn.mk (j+1) I ⟨ar,by rw [ak];rfl⟩ b' aY l3
end Go.Proofs.YtnafpeohfbglmaaGreat
namespace Go.dv
theorem IZ {a b:Int} {p q:List Int} (aE:p.length≤2) (bq:q.length≤2) (h:bw a p=bw b q):a=b∧p=q:=by
 unfold bw at h;simp only [List.cons.injEq,and_true] at h;obtain ⟨U,ae,an,bd⟩:=h;refine ⟨U,?_⟩
 match p,q,aE,bq with
 | [],[],_,_=>rfl
 | [x],[y],_,_=>simp at an;rw [an]
 | [x,oL],[y,Nj],_,_=>simp at an bd;rw [an,bd]
 | [],[_],_,_=>simp at ae
 | [],[_,_],_,_=>simp at ae
 | [_],[],_,_=>simp at ae
 | [_],[_,_],_,_=>simp at ae
 | [_,_],[],_,_=>simp at ae
 | [_,_],[_],_,_=>simp at ae
def dp.core (k:dp):dp:={ k with gB:=false,bl:=[] }
theorem aai (k:dp) (b:Bool):(k.need b).core=k.core:=rfl
theorem O8 (k:dp) (s:Int):(k.slot s).core=k.core:=rfl
theorem aaj (k:dp) (x:cg):(k.ask x).core=k.core.ask x:=by
 unfold dp.ask dp.core
 repeat' split
 all_goals rfl
theorem aak (k:dp) (x:cg):(k.ask x).gB=k.gB:=by
 unfold dp.ask
 repeat' split
 all_goals rfl
theorem tW (σ:ec) (sp:List Int) (k:dp) (q:List Int):(σ.hX sp k) q=if q=sp then k else σ q:=rfl
theorem ze (neg:Bool) (arg:Int) (path:List Int):∀ (j:Nat) (σ:ec) (q:List Int),((gZ neg arg path j σ) q).core=(σ q).core
  | 0,σ,q=>by
    rw [gZ,tW];split
    · rename_i h;subst h;rfl
    · rfl
  | j+1,σ,q=>by
    rw [gZ];simp only [tW];by_cases U:q=bw arg (path.take (j+1))
    · rw [if_pos U,aai]
      split
      · rename_i ae;rw [O8,ze,U,ae]
      · rw [ze,U]
    · rw [if_neg U]
      split
      · rename_i ae;rw [O8,ze,ae]
      · rw [ze]
theorem O9 (neg:Bool) (arg:Int) (path:List Int) (q:List Int):∀ (j:Nat) (σ:ec),(((gZ neg arg path j σ) q).gB=true↔(σ q).gB=true∨neg=false∧∃ i,i≤j∧q=bw arg (path.take i))
  | 0,σ=>by
    rw [gZ,tW];by_cases h:q=bw arg []
    · rw [if_pos h]
      unfold dp.need;simp only [or_eq_true,not_eq_true'];rw [h];constructor
      · rintro (U|U)
        · exact .inl U
        · exact .inr ⟨U,0,Nat.le_refl _,by simp⟩
      · rintro (U|⟨U,_⟩)
        · exact .inl U
        · exact .inr U
    · rw [if_neg h]
      constructor
      · exact .inl
      · rintro (U|⟨_,i,aQ,U⟩)
        · exact U
        · exact absurd (by rw [U,show i=0 by omega];simp) h
  | j+1,σ=>by
    have a6:=O9 neg arg path q j σ;rw [gZ];simp only [tW];by_cases h:q=bw arg (path.take (j+1))
    · rw [if_pos h]
      unfold dp.need;simp only [or_eq_true,not_eq_true'];have e:∀ k:dp,(k.slot (path.getD j 0)).gB=k.gB:=fun k=>rfl
      have:(if bw arg (path.take (j+1))=bw arg (path.take j) then ((gZ neg arg path j σ) (bw arg (path.take j))).slot (path.getD j 0) else (gZ neg arg path j σ) (bw arg (path.take (j+1)))).gB=((gZ neg arg path j σ) q).gB:=by
        split
        · rename_i ae;rw [e,h,ae]
        · rw [h]
      rw [this,a6];constructor
      · rintro ((U|⟨U,i,aQ,ae⟩)|U)
        · exact .inl U
        · exact .inr ⟨U,i,by omega,ae⟩
        · exact .inr ⟨U,j+1,Nat.le_refl _,h⟩
      · rintro (U|⟨U,_⟩)
        · exact .inl (.inl U)
        · exact .inr U
    · rw [if_neg h]
      have:(if q=bw arg (path.take j) then ((gZ neg arg path j σ) (bw arg (path.take j))).slot (path.getD j 0) else (gZ neg arg path j σ) q).gB=((gZ neg arg path j σ) q).gB:=by
        split
        · rename_i ae;rw [← ae];rfl
        · rfl
      rw [this,a6];constructor
      · rintro (U|⟨U,i,aQ,ae⟩)
        · exact .inl U
        · exact .inr ⟨U,i,by omega,ae⟩
      · rintro (U|⟨U,i,aQ,ae⟩)
        · exact .inl U
        · rcases Nat.lt_or_ge i (j+1) with an|an
          · exact .inr ⟨U,i,by omega,ae⟩
          · exact absurd (by rw [ae,show i=j+1 by omega]) h
theorem O' (neg:Bool) (arg:Int) (path:List Int) (q:List Int) (s:Int):∀ (j:Nat) (σ:ec),(s∈((gZ neg arg path j σ) q).bl↔s∈(σ q).bl∨∃ i,i<j∧q=bw arg (path.take i)∧s=path.getD i 0)
  | 0,σ=>by
    rw [gZ,tW];have:(if q=bw arg [] then (σ (bw arg [])).need neg else σ q).bl=(σ q).bl:=by
      split
      · rename_i h;rw [h];rfl
      · rfl
    rw [this];constructor
    · exact .inl
    · rintro (h|⟨i,h,_⟩)
      · exact h
      · omega
  | j+1,σ=>by
    have a6:=O' neg arg path q s j σ;rw [gZ];simp only [tW]
    have e:(if q=bw arg (path.take (j+1)) then (if bw arg (path.take (j+1))=bw arg (path.take j) then ((gZ neg arg path j σ) (bw arg (path.take j))).slot (path.getD j 0) else (gZ neg arg path j σ) (bw arg (path.take (j+1)))).need neg
        else (if q=bw arg (path.take j) then ((gZ neg arg path j σ) (bw arg (path.take j))).slot (path.getD j 0) else (gZ neg arg path j σ) q)).bl=(if q=bw arg (path.take j) then ((gZ neg arg path j σ) q).slot (path.getD j 0) else (gZ neg arg path j σ) q).bl:=by
      by_cases h:q=bw arg (path.take (j+1))
      · rw [if_pos h,h]
        show (if _ then _ else _:dp).bl=_;split
        · rename_i ae;rw [ae]
        · rfl
      · rw [if_neg h]
        split
        · rename_i ae;rw [ae]
        · rfl
    rw [e];by_cases h:q=bw arg (path.take j)
    · rw [if_pos h]
      show s∈m8 _ _↔_;rw [MO,a6];constructor
      · rintro (U|U|⟨i,aQ,U,ae⟩)
        · exact .inr ⟨j,lt_succ_self _,h,U⟩
        · exact .inl U
        · exact .inr ⟨i,by omega,U,ae⟩
      · rintro (U|⟨i,aQ,U,ae⟩)
        · exact .inr (.inl U)
        · rcases Nat.lt_or_ge i j with an|an
          · exact .inr (.inr ⟨i,an,U,ae⟩)
          · rw [show i=j by omega] at ae;exact .inl ae
    · rw [if_neg h,a6]
      constructor
      · rintro (U|⟨i,aQ,U,ae⟩)
        · exact .inl U
        · exact .inr ⟨i,by omega,U,ae⟩
      · rintro (U|⟨i,aQ,U,ae⟩)
        · exact .inl U
        · rcases Nat.lt_or_ge i j with an|an
          · exact .inr ⟨i,an,U,ae⟩
          · exact absurd (by rw [U,show i=j by omega]) h
open Go.Proofs.YtnafpeohfbglmaaGreat
theorem tK.path {w:bx} {L:List cg} (h:tK w L):∀ x∈L,x.1.path.length≤2:=fun x ab=>(DA (h x ab).1 (h x ab).2).1
theorem aal (σ:ec) (x:cg) (q:List Int):((addLit σ x) q).core=if q=bw x.1.arg x.1.path then (σ q).core.ask x else (σ q).core:=by
 unfold addLit;rw [tW];split
 ·rename_i h;rw [aaj,ze,h]
 ·rw [ze]
theorem aam (σ:ec) (x:cg) (q:List Int):((addLit σ x) q).gB=true↔(σ q).gB=true∨x.2=false∧∃ i,i≤x.1.path.length∧q=bw x.1.arg (x.1.path.take i):=by
 rw [← O9];unfold addLit;rw [tW];split
 ·rename_i h;rw [aak,h]
 ·rfl
theorem aan (σ:ec) (x:cg) (q:List Int) (s:Int):s∈((addLit σ x) q).bl↔s∈(σ q).bl∨∃ i,i<x.1.path.length∧q=bw x.1.arg (x.1.path.take i)∧s=x.1.path.getD i 0:=by
 rw [← O' x.2];unfold addLit;rw [tW];split
 ·rename_i h;rw [MP,h]
 ·rfl
theorem I0 {x:cg} {arg:Int} {path:List Int}:ld arg path x=true↔x.1.arg=arg∧path.length≤x.1.path.length∧x.1.path.take path.length=path:=by
 unfold ld u4;simp
theorem aao {x:cg} {arg:Int} {path:List Int} (ab:x.1.path.length≤2) (aE:path.length≤2):(∃ i,i≤x.1.path.length∧bw arg path=bw x.1.arg (x.1.path.take i))↔ld arg path x=true:=by
 rw [I0];constructor
 ·rintro ⟨i,aQ,h⟩
  obtain ⟨U,ae⟩:=IZ aE t' h;have aB:path.length=i:=by rw [ae,length_take];omega
  exact ⟨U.symm,by omega,by rw [aB];exact ae.symm⟩
 ·rintro ⟨U,ae,an⟩
  exact ⟨path.length,ae,by rw [U,an]⟩
theorem Pa:∀ (l:List Int) (i:Nat),i<l.length→l.take (i+1)=l.take i++[l.getD i 0]:=fun l i aQ=>by
 rw [take_add_one,getD_eq_getElem?_getD,getElem?_eq_getElem aQ];rfl
theorem aap {x:cg} {arg s:Int} {path:List Int} (ab:x.1.path.length≤2) (aE:path.length≤2):(∃ i,i<x.1.path.length∧bw arg path=bw x.1.arg (x.1.path.take i)∧s=x.1.path.getD i 0)↔ld arg (path++[s]) x=true:=by
 rw [I0,length_append,List.length_singleton];constructor
 ·rintro ⟨i,aQ,h,rfl⟩
  obtain ⟨U,ae⟩:=IZ aE t' h;have aB:path.length=i:=by rw [ae,length_take];omega
  exact ⟨U.symm,by omega,by rw [aB,Pa _ _ aQ,← ae]⟩
 ·rintro ⟨U,ae,an⟩
  rw [Pa _ _ ag] at an;obtain ⟨bd,bD⟩:=List.append_inj' an rfl;exact ⟨path.length,by omega,by rw [U,bd],(List.cons.inj bD).1.symm⟩
theorem exists_cons {q:cg→Prop} {x:cg} {r:List cg}:(∃ y∈x::r,q y)↔q x∨∃ y∈r,q y:=by simp
section
variable {w:bx} {arg:Int} {path:List Int} (aE:path.length≤2)
include aE
theorem Pb:∀ (L:List cg) (σ:ec),tK w L→((L.foldl addLit σ) (bw arg path)).core=(fr L arg path).foldl dp.ask (σ (bw arg path)).core
  | [],σ,_=>rfl
  | x::r,σ,h=>by
    rw [foldl_cons,Pb r _ (fun y ay=>h y (mem_cons_of_mem _ ay)),aal];unfold fr;rw [filter_cons];have ab:=h.path x mem_cons_self;by_cases e:sh arg path x=true
    · rw [if_pos e]
      unfold sh at e;simp only [and_eq_true,decide_eq_true_eq,beq_iff_eq] at e;rw [if_pos (by rw [e.1,e.2]),foldl_cons]
    · rw [if_neg e,if_neg]
      intro ae;obtain ⟨an,bd⟩:=IZ aE ab ae;exact e (by unfold sh;simp [an,bd])
theorem Pc:∀ (L:List cg) (σ:ec),tK w L→(((L.foldl addLit σ) (bw arg path)).gB=true↔(σ (bw arg path)).gB=true∨∃ x∈L,x.2=false∧ld arg path x=true)
  | [],σ,_=>by simp
  | x::r,σ,h=>by
    rw [foldl_cons,Pc r _ (fun y ay=>h y (mem_cons_of_mem _ ay)),aam,aao (h.path x mem_cons_self) aE,or_assoc,exists_cons]
theorem Pd (s:Int):∀ (L:List cg) (σ:ec),tK w L→(s∈((L.foldl addLit σ) (bw arg path)).bl↔s∈(σ (bw arg path)).bl∨∃ x∈L,ld arg (path++[s]) x=true)
  | [],σ,_=>by simp
  | x::r,σ,h=>by
    rw [foldl_cons,Pd s r _ (fun y ay=>h y (mem_cons_of_mem _ ay)),aan,aap (h.path x mem_cons_self) aE,or_assoc,exists_cons]
variable {L:List cg} (bK:tK w L)
include bK
theorem Pe:((ev L) (bw arg path)).gB = !lH L arg path:=by
 rw [Bool.eq_iff_iff];unfold ev lH;rw [Pc aE L w1 bK];simp [w1,iX]
theorem BV (s:Int):s∈((ev L) (bw arg path)).bl↔na L arg path s=true:=by
 unfold ev na;rw [Pd aE s L w1 bK];simp [w1,iX]
omit aE in
theorem xD {s:Int} (h:na L arg path s=true):0≤s∧s<(w.owner.length:Int)∧(path++[s]).length≤2:=by
 unfold na at h;obtain ⟨x,ab,h⟩:=any_eq_true.1 h;obtain ⟨-,ae,an⟩:=I0.1 h;obtain ⟨bd,bD⟩:=DA (bK x ab).1 (bK x ab).2;have hm:s∈x.1.path:=List.mem_of_mem_take (by rw [an];simp);have:=bD s hm;exact ⟨this.1,this.2,by omega⟩
theorem Ew {s:Int}:s∈jR w.owner.length L arg path↔s∈((ev L) (bw arg path)).bl:=by
 rw [BV aE bK];unfold jR;simp only [List.mem_map,mem_filter,mem_range];constructor
 ·rintro ⟨n,⟨-,h⟩,rfl⟩;exact h
 ·intro h
  have:=xD bK h;exact ⟨s.toNat,⟨by omega,by rw [show ((s.toNat:Nat):Int)=s by omega];exact h⟩,by omega⟩
theorem aaq:tL w.owner.length L arg path=A' (ev L) arg path:=by
 unfold tL A';rw [Bool.eq_iff_iff,all_eq_true,all_eq_true];constructor <;>
 ·intro h s au
  have hG:=au
  first|rw [Ew aE bK] at au|rw [← Ew aE bK] at au
  have fq:na L arg path s=true:=by
   first|exact (BV aE bK s).1 au|exact (BV aE bK s).1 hG
  have ae:=Pe (arg:=arg) (xD bK fq).2.2 bK;have U:=h s au;rw [ae] at *;simpa using U
end
open Go.cW Go.Proofs.YtnafpeohfbglmaaGreat
def vt (x:cg):Bool:=decide (x.1.op=2)&&(decide (x.1.cls>1) != x.2)
theorem Pf:∀ (l:List cg) (k:dp),pg l (k.low,k.high,k.e2)=if l.any vt then none else some ((l.foldl dp.ask k).low,(l.foldl dp.ask k).high,(l.foldl dp.ask k).e2)
  | [],k=>rfl
  | x::r,k=>by
    have a6:=Pf r (k.ask x);rw [pg,any_cons,foldl_cons];by_cases ae:x.1.op=2
    · have e:vt x=(decide (x.1.cls>1) != x.2):=by unfold vt;rw [decide_eq_true ae,Bool.true_and]
      rw [if_pos ae,e];have cb:(k.ask x).low=k.low:=by unfold dp.ask;rw [if_pos ae];split<;>rfl
      have b1:(k.ask x).high=k.high:=by unfold dp.ask;rw [if_pos ae];split<;>rfl
      have eV:(k.ask x).e2=k.e2:=by unfold dp.ask;rw [if_pos ae];split<;>rfl
      rw [cb,b1,eV] at a6;cases aq:(decide (x.1.cls>1) != x.2) with
      | true=>simp
      | false=>rw [Bool.false_or,if_neg ba,a6]
    · have e:vt x=false:=by unfold vt;rw [decide_eq_false ae,Bool.false_and]
      rw [if_neg ae,e,Bool.false_or,← a6];unfold dp.ask;rw [if_neg ae];split
      · split<;>rfl
      · split<;>rfl
theorem I1:∀ (k:Nat) (n:Int) (l:List Int),A7 k n l=l7 k n l
 | 0,_,_=>rfl
 | k+1,n,l=>by rw [A7,l7,I1 k]
theorem Pg:∀ (l:List cg) (k:dp) (c:Nat),(l.foldl dp.ask k).fU.testBit c=(k.fU.testBit c||l.any fun x=>decide (x.1.op=2)&&(!x.2&&decide (x.1.cls.toNat=c)))
  | [],k,c=>by simp
  | x::r,k,c=>by
    rw [foldl_cons,Pg r,any_cons,← Bool.or_assoc];congr 1;unfold dp.ask;by_cases ae:x.1.op=2
    · rw [if_pos ae,decide_eq_true ae,Bool.true_and]
      cases x.2 with
      | true=>simp
      | false=>simp [testBit_or,testBit_two_pow]
    · rw [if_neg ae,decide_eq_false ae,Bool.false_and,Bool.or_false]
      repeat' split
      all_goals rfl
theorem Ph:∀ (l:List cg) (k:dp) (c:Nat),(l.foldl dp.ask k).no.testBit c=(k.no.testBit c||l.any fun x=>decide (x.1.op=2)&&(x.2&&decide (x.1.cls.toNat=c)))
  | [],k,c=>by simp
  | x::r,k,c=>by
    rw [foldl_cons,Ph r,any_cons,← Bool.or_assoc];congr 1;unfold dp.ask;by_cases ae:x.1.op=2
    · rw [if_pos ae,decide_eq_true ae,Bool.true_and]
      cases x.2 with
      | false=>simp
      | true=>simp [testBit_or,testBit_two_pow]
    · rw [if_neg ae,decide_eq_false ae,Bool.false_and,Bool.or_false]
      repeat' split
      all_goals rfl
theorem Pj:∀ (l:List cg) (k:dp),(l.foldl dp.ask k).whole=(k.whole||l.any fun x => !decide (x.1.op=2) && !x.2)
  | [],k=>by simp
  | x::r,k=>by
    rw [foldl_cons,Pj r,any_cons,← Bool.or_assoc];congr 1;unfold dp.ask;by_cases ae:x.1.op=2
    · rw [if_pos ae,decide_eq_true ae]
      split<;>simp
    · rw [if_neg ae,decide_eq_false ae]
      cases ab:x.2<;>by_cases an:x.1.op=3<;>simp [an]
theorem Pk {p q b:cg→Bool}:∀ (l:List cg),(∀ x∈l,b x=(p x||q x))→l.any b = !(l.all (fun x => !p x)&&l.all (fun x => !q x))
  | [],_=>rfl
  | x::r,h=>by
    rw [any_cons,all_cons,all_cons,Pk r (fun y ay=>h y (mem_cons_of_mem _ ay)),h x mem_cons_self];cases p x<;>cases q x<;>simp
section
variable {w:bx} (hw:fT w) {arg:Int} {path:List Int} (aE:path.length≤2) {L:List cg} (bK:tK w L)
include aE bK
theorem Ex:((ev L) (bw arg path)).core=(fr L arg path).foldl dp.ask iX:=Pb aE L w1 bK
theorem vu (c:Nat):((ev L) (bw arg path)).fU.testBit c=(fr L arg path).any fun x=>decide (x.1.op=2)&&(!x.2&&decide (x.1.cls.toNat=c)):=by
 have h:((ev L) (bw arg path)).fU=((fr L arg path).foldl dp.ask iX).fU:=by rw [← Ex aE bK];rfl
 rw [h,Pg];simp [iX]
theorem Ey (c:Nat):((ev L) (bw arg path)).no.testBit c=(fr L arg path).any fun x=>decide (x.1.op=2)&&(x.2&&decide (x.1.cls.toNat=c)):=by
 have h:((ev L) (bw arg path)).no=((fr L arg path).foldl dp.ask iX).no:=by rw [← Ex aE bK];rfl
 rw [h,Ph];simp [iX]
theorem Pl:((ev L) (bw arg path)).whole=(fr L arg path).any fun x => !decide (x.1.op=2) && !x.2:=by
 have h:((ev L) (bw arg path)).whole=((fr L arg path).foldl dp.ask iX).whole:=by rw [← Ex aE bK];rfl
 rw [h,Pj];simp [iX]
omit aE in
theorem sF {x:cg} (ab:x∈fr L arg path) (ae:x.1.op=2):0≤x.1.cls∧x.1.cls<3+(w.ps.length:Int):=by
 unfold fr at ab;obtain ⟨az,aB⟩:=bK x (mem_filter.1 ab).1;simp only [h3,aB,if_true,if_pos ae,and_eq_true,decide_eq_true_eq] at az;have:=az.2.2.2.2.2.2.2;omega
theorem Pm {c:Nat} (h:((ev L) (bw arg path)).fU.testBit c=true):c<3+w.ps.length:=by
 rw [vu aE bK] at h;obtain ⟨x,ab,h⟩:=any_eq_true.1 h;simp only [and_eq_true,decide_eq_true_eq] at h;have:=sF bK ab h.1;omega
include hw
theorem Pn {c:Nat} (aA:c<3):u' (ev L) arg path c=((fr L arg path).all (fun x => !(decide (x.1.op=2)&&(!x.2 && !(decide (x.1.cls=0)||decide (x.1.cls=c)))))&&((fr L arg path).all (fun x => !(decide (x.1.op=2)&&(x.2&&(decide (x.1.cls=0)||decide (x.1.cls=c)))))&&tL w.owner.length L arg path)):=by
 have qX:=hw.iV;unfold u';rw [aaq aE bK];have aq:∀ i,(1|||2^c:Nat).testBit i=(decide (i=0)||decide (i=c)):=fun i=>by
  rw [testBit_or,Ai,testBit_two_pow];congr 1;rw [Bool.eq_iff_iff,decide_eq_true_eq,decide_eq_true_eq];omega
 congr 1
 ·rw [Bool.eq_iff_iff,decide_eq_true_eq,all_eq_true]
  constructor
  ·intro h x ab
   cases cP:(decide (x.1.op=2)&&(!x.2 && !(decide (x.1.cls=0)||decide (x.1.cls=c)))) with
   | false=>rfl
   | true=>
    exfalso;simp only [and_eq_true,decide_eq_true_eq,not_eq_true',or_eq_false_iff,decide_eq_false_iff_not] at cP;have ct:=sF bK ab cP.1;have hm:((ev L) (bw arg path)).fU.testBit x.1.cls.toNat=true:=by
     rw [vu aE bK,any_eq_true];exact ⟨x,ab,by simp [cP.1,cP.2.1]⟩
    have:=congrArg (fun n=>n.testBit x.1.cls.toNat) h;simp only [k2,testBit_and,testBit_xor,hm,aq,zero_testBit,Bool.true_and] at this;rw [show (18446744073709551615:Nat)=2^64-1 by decide,Nat.testBit_two_pow_sub_one,decide_eq_true (by omega:x.1.cls.toNat<64),decide_eq_false ag,decide_eq_false ag] at this;cases this
  ·intro h
   apply Nat.eq_of_testBit_eq;intro i;rw [zero_testBit];cases hm:((ev L) (bw arg path)).fU.testBit i with
   | false=>unfold k2;rw [testBit_and,hm,Bool.false_and]
   | true=>
    have aQ:=Pm aE bK hm;rw [vu aE bK,any_eq_true] at hm;obtain ⟨x,ab,hm⟩:=hm;simp only [and_eq_true,decide_eq_true_eq,not_eq_true'] at hm;have:=h x ab;have ct:=sF bK ab hm.1;simp only [hm.1,hm.2.1,decide_true,Bool.not_false,Bool.true_and,Bool.not_not,or_eq_true,decide_eq_true_eq] at this;unfold k2;rw [testBit_and,testBit_xor,aq,show (18446744073709551615:Nat)=2^64-1 by decide,Nat.testBit_two_pow_sub_one,decide_eq_true (by omega:i<64)];rcases (by omega:i=0∨i=c) with rfl|rfl
    ·simp
    ·simp
 congr 1;rw [Bool.eq_iff_iff,decide_eq_true_eq,all_eq_true];constructor
 ·intro h x ab
  cases cP:(decide (x.1.op=2)&&(x.2&&(decide (x.1.cls=0)||decide (x.1.cls=c)))) with
  | false=>rfl
  | true=>
   exfalso;simp only [and_eq_true,decide_eq_true_eq,or_eq_true] at cP;have ct:=sF bK ab cP.1;have hm:((ev L) (bw arg path)).no.testBit x.1.cls.toNat=true:=by
    rw [Ey aE bK,any_eq_true];exact ⟨x,ab,by simp [cP.1,cP.2.1]⟩
   have:=congrArg (fun n=>n.testBit x.1.cls.toNat) h;simp only [testBit_and,hm,aq,zero_testBit,Bool.true_and,or_eq_false_iff,decide_eq_false_iff_not] at this;omega
 ·intro h
  apply Nat.eq_of_testBit_eq;intro i;rw [zero_testBit,testBit_and,aq];cases hm:((ev L) (bw arg path)).no.testBit i with
  | false=>rfl
  | true=>
   rw [Ey aE bK,any_eq_true] at hm;obtain ⟨x,ab,hm⟩:=hm;simp only [and_eq_true,decide_eq_true_eq] at hm;have:=h x ab;have ct:=sF bK ab hm.1;simp only [hm.1,hm.2.1,decide_true,Bool.true_and,not_eq_true',or_eq_false_iff,decide_eq_false_iff_not] at this;simp only [Bool.true_and,or_eq_false_iff,decide_eq_false_iff_not];omega
theorem aar:u5 w.owner.length L arg path=xi (ev L) arg path:=by
 have aQ:=Pf (fr L arg path) iX;have aA:=Ex (arg:=arg) aE bK;have U:((ev L) (bw arg path)).low=((fr L arg path).foldl dp.ask iX).low:=by rw [← aA];rfl
 have ae:((ev L) (bw arg path)).high=((fr L arg path).foldl dp.ask iX).high:=by rw [← aA];rfl
 have an:((ev L) (bw arg path)).e2=((fr L arg path).foldl dp.ask iX).e2:=by rw [← aA];rfl
 unfold u5 xi xh;rw [Pn hw aE bK ag,U,ae,an];rw [show ((-1000000000:Int),(1000000000:Int),([]:List Int))=(iX.low,iX.high,iX.e2) from rfl,aQ];have aq:(fr L arg path).any vt = !((fr L arg path).all (fun x => !(decide (x.1.op=2)&&(!x.2 && !(decide (x.1.cls=0)||decide (x.1.cls=(1:Nat))))))&&(fr L arg path).all (fun x => !(decide (x.1.op=2)&&(x.2&&(decide (x.1.cls=0)||decide (x.1.cls=(1:Nat))))))):=by
  have e:∀ x∈fr L arg path,vt x=(decide (x.1.op=2)&&(!x.2 && !(decide (x.1.cls=0)||decide (x.1.cls=(1:Nat))))||decide (x.1.op=2)&&(x.2&&(decide (x.1.cls=0)||decide (x.1.cls=(1:Nat))))):=by
   intro x ab;unfold vt;by_cases ae:x.1.op=2
   ·have:=sF bK ab ae
    rw [decide_eq_true ae];have cb:decide (x.1.cls>1) = !(decide (x.1.cls=0)||decide (x.1.cls=(1:Nat))):=by
     rw [Bool.eq_iff_iff];simp;omega
    rw [cb];cases x.2<;>simp
   ·rw [decide_eq_false ae];rfl
  exact Pk _ e
 rw [aq];cases (fr L arg path).all (fun x => !(decide (x.1.op=2)&&(!x.2 && !(decide (x.1.cls=0)||decide (x.1.cls=(1:Nat)))))) with
 | false=>simp
 | true=>
  cases (fr L arg path).all (fun x => !(decide (x.1.op=2)&&(x.2&&(decide (x.1.cls=0)||decide (x.1.cls=(1:Nat)))))) with
  | false=>simp
  | true=>simp only [Bool.and_self,Bool.not_true,false_eq_true,if_false,Bool.true_and,I1]
theorem aas:xa w.owner.length L arg path=xg (ev L) arg path:=by
 unfold xa xg;rw [Pn hw aE bK ag,Pl aE bK,← Bool.and_assoc,← Bool.and_assoc];congr 1;rw [Bool.eq_iff_iff];simp only [and_eq_true,all_eq_true,not_eq_true',any_eq_false];have e:∀ x∈fr L arg path,(ra x=false↔(¬(decide (x.1.op=2)=false∧x.2=false)∧(decide (x.1.op=2)&&(!x.2 && !(decide (x.1.cls=0)||decide (x.1.cls=(2:Nat)))))=false)∧(decide (x.1.op=2)&&(x.2&&(decide (x.1.cls=0)||decide (x.1.cls=(2:Nat)))))=false):=by
  intro x ab;unfold ra;by_cases ae:x.1.op=2<;>cases x.2<;>simp [ae]<;>omega
 constructor
 ·intro h
  exact ⟨⟨fun x ab=>((e x ab).1 (h x ab)).1.1,fun x ab=>((e x ab).1 (h x ab)).1.2⟩,fun x ab=>((e x ab).1 (h x ab)).2⟩
 ·rintro ⟨⟨U,ae⟩,an⟩ x ab
  exact (e x ab).2 ⟨⟨U x ab,ae x ab⟩,an x ab⟩
end
open Go.cW Go.Proofs.YtnafpeohfbglmaaGreat
theorem I2 {l lv:List Int} {f g:Int→Bool} (h:∀ s,s∈l↔s∈lv) (aZ:∀ s∈l,f s=g s):l.any f=lv.any g:=by
 rw [Bool.eq_iff_iff,any_eq_true,any_eq_true];constructor
 ·rintro ⟨s,au,e⟩;exact ⟨s,(h s).1 au,by rw [← aZ s au];exact e⟩
 ·rintro ⟨s,au,e⟩;exact ⟨s,(h s).2 au,by rw [aZ s ((h s).2 au)];exact e⟩
def nP (x:cg):Bool := !decide (x.1.op=2)||(decide (x.1.cls=1)||decide (x.1.cls=2))
theorem I3 (a:Nat→Bool) (c k:Nat) (b:Bool):((if k=c then true else a k)||b)=(a k||(decide (c=k)||b)):=by
 by_cases h:k=c
 ·rw [if_pos h,decide_eq_true h.symm];simp
 ·rw [if_neg h,decide_eq_false (Ne.symm h)];simp
theorem Ez:∀ (l:List cg) (a:(Nat→Bool)×(Nat→Bool)),p9 l a=if l.any (fun x=>nP x && !x.2) then none else
    some (fun k=>a.1 k||l.any (fun x => !nP x&&(!x.2&&decide (x.1.cls.toNat=k))),fun k=>a.2 k||l.any (fun x => !nP x&&(x.2&&decide (x.1.cls.toNat=k))))
  | [],a=>by rw [p9];simp
  | x::r,a=>by
    rw [p9,any_cons];simp only [any_cons];by_cases h:x.1.op≠2∨x.1.cls=1∨x.1.cls=2
    · have e:nP x=true:=by unfold nP;simpa [or_assoc] using h
      rw [if_pos h,e];cases x.2 with
      | true=>rw [if_pos C,Ez r a];simp only [Bool.not_true,Bool.and_false,Bool.false_or,Bool.false_and]
      | false=>simp
    · have e:nP x=false:=by
        rw [eq_false_iff];intro e;apply h;unfold nP at e;simpa [or_assoc] using e
      rw [if_neg h,e];cases x.2 with
      | true=>
        rw [if_pos C,Ez r _];simp only [I3,Bool.not_true,Bool.not_false,Bool.and_false,Bool.false_or,Bool.false_and,Bool.true_and]
      | false=>
        rw [if_neg ba,Ez r _];simp only [I3,Bool.not_true,Bool.not_false,Bool.and_false,Bool.false_or,Bool.false_and,Bool.true_and]
theorem Po (w:bx) (L:List cg) (cn:List Int→Bool) (arg:Int) (path:List Int):∀ (l:List Int) (a:(Nat→Bool)×(Nat→Bool)),si w L cn arg path l a=if l.any (fun s => !lH L arg (path++[s]) && !cn (path++[s])) then none else
    some (fun k=>a.1 k||l.any (fun s => !lH L arg (path++[s])&&decide (jS w s=k)),fun k=>a.2 k||l.any (fun s => !cn (path++[s])&&decide (jS w s=k)))
  | [],a=>by rw [si];simp
  | s::r,a=>by
    rw [si,any_cons];simp only [any_cons];cases aA:(!lH L arg (path++[s]) && !cn (path++[s])) with
    | true=>simp
    | false=>
      rw [if_neg ba,Bool.false_or,Po w L cn arg path r _];cases lH L arg (path++[s])<;>cases cn (path++[s])<;>simp only [I3,jS,Bool.not_true,Bool.not_false,Bool.and_false,Bool.false_or,Bool.false_and,Bool.true_and,if_true,if_false,false_eq_true]<;>rfl
theorem I4 {w:bx} {σ:ec} {cn:List Int→Bool} {arg:Int} {path:List Int}:∀ {l:List Int} {m n:Nat},l.any (fun s=>(σ (bw arg (path++[s]))).gB && !cn (path++[s]))=true→pj w σ cn arg path l m n=none
  | s::r,m,n,h=>by
    rw [pj];rw [any_cons] at h;cases aA:((σ (bw arg (path++[s]))).gB && !cn (path++[s])) with
    | true=>rfl
    | false=>
      rw [aA,Bool.false_or] at h;rw [if_neg ba];split
      · exact I4 h
      · split<;>exact I4 h
theorem EA {w:bx} {σ:ec} {cn:List Int→Bool} {arg:Int} {path:List Int}:∀ {l:List Int} {m n:Nat},l.any (fun s=>(σ (bw arg (path++[s]))).gB && !cn (path++[s]))=false →
    ∃ iQ n',pj w σ cn arg path l m n=some (iQ,n')∧(∀ k,iQ.testBit k=(m.testBit k||l.any fun s=>(σ (bw arg (path++[s]))).gB&&decide (jS w s=k)))∧∀ k,n'.testBit k=(n.testBit k||l.any fun s => !cn (path++[s])&&decide (jS w s=k))
  | [],m,n,_=>⟨m,n,rfl,fun k=>by simp,fun k=>by simp⟩
  | s::r,m,n,h=>by
    rw [any_cons,or_eq_false_iff] at h;obtain ⟨U,ae⟩:=h;rw [pj,if_neg (by rw [U];simp)];simp only [any_cons];by_cases az:(σ (bw arg (path++[s]))).gB=true
    · rw [az,Bool.true_and,Bool.not_eq_false'] at U
      obtain ⟨iQ,n',e,hm,gd⟩:=EA (w:=w) (σ:=σ) (cn:=cn) (arg:=arg) (path:=path) (l:=r) (m:=m|||2^jS w s) (n:=n) ae;refine ⟨iQ,n',by rw [if_pos az];exact e,fun k=>?_,fun k=>?_⟩
      · rw [hm,az,testBit_or,testBit_two_pow,Bool.true_and,Bool.or_assoc]
      · rw [gd,U];simp
    · rw [if_neg az]
      have az:(σ (bw arg (path++[s]))).gB=false:=by simpa using az
      by_cases aA:cn (path++[s])=true
      · obtain ⟨iQ,n',e,hm,gd⟩:=EA (w:=w) (σ:=σ) (cn:=cn) (arg:=arg) (path:=path) (l:=r) (m:=m) (n:=n) ae
        refine ⟨iQ,n',by rw [if_pos aA];exact e,fun k=>?_,fun k=>?_⟩
        · rw [hm,az];simp
        · rw [gd,aA];simp
      · obtain ⟨iQ,n',e,hm,gd⟩:=EA (w:=w) (σ:=σ) (cn:=cn) (arg:=arg) (path:=path) (l:=r) (m:=m) (n:=n|||2^jS w s) ae
        have m3:cn (path++[s])=false:=by simpa using aA
        refine ⟨iQ,n',by rw [if_neg aA];exact e,fun k=>?_,fun k=>?_⟩
        · rw [hm,az];simp
        · rw [gd,m3,testBit_or,testBit_two_pow,Bool.not_false,Bool.true_and,Bool.or_assoc]
theorem Pp {w:bx} (hw:fT w) (m:Nat) (k:Nat):∀ i,i≤w.ps.length→(((range i).foldl (tM w) m).testBit k=true↔m.testBit k=true∨∃ j,j<i∧m.testBit (3+j)=true∧((ey w.ps).getD (3+j) 0).testBit k=true)
  | 0,_=>by simp
  | i+1,aQ=>by
    have a6:=fun k=>Pp hw m k i ag
    rw [List.range_succ,List.foldl_append,foldl_cons,foldl_nil];have aq:((range i).foldl (tM w) m).testBit (3+i)=m.testBit (3+i):=by
      rw [Bool.eq_iff_iff,a6 (3+i)];constructor
      · rintro (h|⟨j,aK,-,h⟩)
        · exact h
        · have:=yc hw (3+j+1) (3+j) (3+i) ag ag h;omega
      · exact .inl
    have e:∀ M,tM w M i=if M.testBit (3+i) then M|||(ey w.ps).getD (3+i) 0 else M:=fun M=>rfl
    rw [e,aq];by_cases an:m.testBit (3+i)=true
    · rw [if_pos an,testBit_or,or_eq_true,a6]
      constructor
      · rintro ((h|⟨j,aK,h,eX⟩)|h)
        · exact .inl h
        · exact .inr ⟨j,by omega,h,eX⟩
        · exact .inr ⟨i,by omega,an,h⟩
      · rintro (h|⟨j,aK,h,eX⟩)
        · exact .inl (.inl h)
        · rcases Nat.lt_succ_iff_lt_or_eq.1 aK with aK|rfl
          · exact .inl (.inr ⟨j,aK,h,eX⟩)
          · exact .inr eX
    · rw [if_neg an,a6]
      constructor
      · rintro (h|⟨j,aK,h,eX⟩)
        · exact .inl h
        · exact .inr ⟨j,by omega,h,eX⟩
      · rintro (h|⟨j,aK,h,eX⟩)
        · exact .inl h
        · rcases Nat.lt_succ_iff_lt_or_eq.1 aK with aK|rfl
          · exact .inr ⟨j,aK,h,eX⟩
          · exact absurd h an
theorem aat {w:bx} (hw:fT w) {f a2:Nat→Bool} {m n:Nat} (aZ:∀ k,1≤k→f k=m.testBit k) (aau:f 0=false) (xE:m.testBit 1=false∧m.testBit 2=false) (hm:∀ k,m.testBit k=true→k<3+w.ps.length) (a8:∀ k,3≤k→a2 k=n.testBit k) :
  ((range (3+w.ps.length)).all fun k => !(hn w.ps w.ps.length f k&&a2 k))=decide (k2 (re w m) 1 &&& n=0):=by
 have qX:=hw.iV;have rY:∀ k,((re w m).testBit k=true↔m.testBit k=true∨∃ j,j<w.ps.length∧m.testBit (3+j)=true∧((ey w.ps).getD (3+j) 0).testBit k=true):=fun k=>Pp hw m k w.ps.length (Nat.le_refl _)
 have ct:∀ k,3≤k→hn w.ps w.ps.length f k=(re w m).testBit k:=fun k aD=>by
  rw [Bool.eq_iff_iff,F3 hw _ _ _ aD (Nat.le_refl _),rY,aZ k ag];constructor <;>
  ·rintro (h|⟨j,aK,h,eX⟩)
   ·exact .inl h
   ·exact .inr ⟨j,aK,by first|rw [← aZ _ ag];exact h|rw [aZ _ ag];exact h,eX⟩
 have aav:∀ k,1≤k→k<3→(re w m).testBit k=false:=fun k U an=>by
  rw [eq_false_iff];intro h;rcases (rY k).1 h with h|⟨j,aK,-,h⟩
  ·rcases (by omega:k=1∨k=2) with rfl|rfl
   ·rw [xE.1] at h;cases h
   ·rw [xE.2] at h;cases h
  ·have:=yc hw (3+j+1) (3+j) k ag ag h
   omega
 rw [Bool.eq_iff_iff,all_eq_true,decide_eq_true_eq];constructor
 ·intro h
  apply Nat.eq_of_testBit_eq;intro i;unfold k2;rw [zero_testBit,testBit_and,testBit_and,testBit_xor,Ai];by_cases br:i=0
  ·subst br
   rw [show (18446744073709551615:Nat).testBit 0=true from rfl];simp
  by_cases an:i<3
  ·rw [aav i ag an];rfl
  ·cases hu:(re w m).testBit i with
   | false=>rfl
   | true=>
    have aQ:i<3+w.ps.length:=by
     rcases (rY i).1 hu with h|⟨j,aK,-,h⟩
     ·exact hm i h
     ·have:=yc hw (3+j+1) (3+j) i ag ag h
      omega
    have:=h i (mem_range.2 aQ);rw [ct i ag,hu,Bool.true_and,a8 i ag,not_eq_true'] at this;rw [this,Bool.and_false]
 ·intro h k aD
  have aD:=mem_range.1 aD;by_cases an:k<3
  ·rw [F2 hw _ _ _ an (Nat.le_refl _)]
   rcases (by omega:k=0∨k=1∨k=2) with rfl|rfl|rfl
   ·rw [aau];rfl
   ·rw [aZ 1 ag,xE.1];rfl
   ·rw [aZ 2 ag,xE.2];rfl
  ·rw [ct k ag,a8 k ag]
   have:=congrArg (fun n=>n.testBit k) h;unfold k2 at this;simp only [zero_testBit,testBit_and,testBit_xor,Ai] at this;rw [show (18446744073709551615:Nat)=2^64-1 by decide,Nat.testBit_two_pow_sub_one,decide_eq_true (by omega:k<64),decide_eq_false (by omega:¬ k=0)] at this;cases hu:(re w m).testBit k with
   | false=>rfl
   | true=>rw [hu] at this;simpa using this
section
variable {w:bx} (hw:fT w) {arg:Int} {path:List Int} (aE:path.length≤2) {L:List cg} (bK:tK w L)
include aE bK hw
omit aE in
theorem I5 {s:Int} (h:na L arg path s=true):3≤jS w s∧jS w s<3+w.ps.length:=by
 have U:=xD bK h;have ar:s.toNat<w.owner.length:=by omega
 have:=hw.own _ (List.getElem_mem ar);unfold jS;rw [getD_eq_getElem?_getD,getElem?_eq_getElem ar,getD_some];omega
theorem aaw {dU zf:List Int→Bool} (aA:∀ s,na L arg path s=true→dU (path++[s])=zf (path++[s])):xb w L dU arg path=(xj w (ev L) zf arg path).2:=by
 have gb:∀ s,s∈jR w.owner.length L arg path↔s∈((ev L) (bw arg path)).bl:=fun s=>Ew aE bK
 have qZ:∀ s∈jR w.owner.length L arg path,na L arg path s=true:=fun s au=>(BV aE bK s).1 ((gb s).1 au)
 have eY:∀ s∈jR w.owner.length L arg path,(!lH L arg (path++[s]))=((ev L) (bw arg (path++[s]))).gB:=fun s au=>(Pe (xD bK (qZ s au)).2.2 bK).symm
 unfold xb xj;rw [Ez,Pl aE bK,vu aE bK,vu aE bK,Ey aE bK];by_cases aq:(fr L arg path).any (fun x=>nP x && !x.2)=true
 ·rw [if_pos aq,if_pos]
  obtain ⟨x,ab,h⟩:=any_eq_true.1 aq;simp only [or_eq_true,any_eq_true];unfold nP at h;simp only [and_eq_true,or_eq_true,not_eq_true',decide_eq_true_eq,decide_eq_false_iff_not] at h;obtain ⟨U,ae⟩:=h;rcases U with U|U|U
  ·exact .inl ⟨x,ab,by simp [U,ae]⟩
  ·by_cases an:x.1.op=2
   ·exact .inr (.inl ⟨x,ab,by simp [U,ae,an]⟩)
   ·exact .inl ⟨x,ab,by simp [an,ae]⟩
  ·by_cases an:x.1.op=2
   ·exact .inr (.inr (.inl ⟨x,ab,by simp [U,ae,an]⟩))
   ·exact .inl ⟨x,ab,by simp [an,ae]⟩
 rw [if_neg aq];have dO:∀ x∈fr L arg path,x.2=false→x.1.op=2∧x.1.cls≠1∧x.1.cls≠2:=by
  intro x ab ae;have:=any_eq_false.1 (eq_false_iff.2 aq) x ab;unfold nP at this;rw [ae] at this;simpa using this
 have cb:(fr L arg path).any (fun x => !decide (x.1.op=2) && !x.2)=false:=by
  rw [any_eq_false];intro x ab h;simp only [and_eq_true,not_eq_true',decide_eq_false_iff_not] at h;exact h.1 (dO x ab h.2).1
 have b1:∀ c:Nat,c=1∨c=2→(fr L arg path).any (fun x=>decide (x.1.op=2)&&(!x.2&&decide (x.1.cls.toNat=c)))=false:=by
  intro c tD;rw [any_eq_false];intro x ab h;simp only [and_eq_true,not_eq_true',decide_eq_true_eq] at h;have:=dO x ab h.2.1;have:=sF bK ab h.1;omega
 rw [cb,b1 1 (.inl C),b1 2 (.inr C),Bool.false_or,Bool.false_or,Bool.false_or];simp only;rw [Po];have pr:(jR w.owner.length L arg path).any (fun s => !lH L arg (path++[s]) && !dU (path++[s]))=((ev L) (bw arg path)).bl.any (fun s=>((ev L) (bw arg (path++[s]))).gB && !zf (path++[s])):=
  I2 gb fun s au=>by rw [eY s au,aA s (qZ s au)]
 rw [pr];have aax:(fr L arg path).any (fun x => !nP x&&(x.2&&decide (x.1.cls.toNat=0)))=(fr L arg path).any (fun x=>decide (x.1.op=2)&&(x.2&&decide (x.1.cls.toNat=0))):=by
  rw [Bool.eq_iff_iff,any_eq_true,any_eq_true];constructor <;>
  ·rintro ⟨x,ab,h⟩
   refine ⟨x,ab,?_⟩;unfold nP at *;by_cases ae:x.1.op=2
   ·simp only [ae,decide_true,Bool.true_and,and_eq_true,decide_eq_true_eq,Bool.not_true,Bool.false_or,not_eq_true',or_eq_false_iff,decide_eq_false_iff_not] at h ⊢
    have:=sF bK ab ae
    first|exact h.2|(obtain ⟨bd,bD⟩:=h;exact ⟨⟨by omega,by omega⟩,bd,bD⟩)
   ·simp [ae] at h
 have aay:(jR w.owner.length L arg path).any (fun s => !dU (path++[s])&&decide (jS w s=0))=false:=by
  rw [any_eq_false];intro s au h;have:=I5 hw bK (qZ s au);simp only [and_eq_true,decide_eq_true_eq] at h;omega
 by_cases a8:((ev L) (bw arg path)).bl.any (fun s=>((ev L) (bw arg (path++[s]))).gB && !zf (path++[s]))=true
 ·rw [if_pos a8,I4 a8]
  have:∀ z:Bool,false=(if z=true then (0,false) else ((0,false):Nat×Bool)).2:=fun z=>by cases z<;>rfl
  exact this _
 rw [if_neg a8];obtain ⟨iQ,n',e,hm,az⟩:=EA (w:=w) (σ:=ev L) (cn:=zf) (arg:=arg) (path:=path) (l:=((ev L) (bw arg path)).bl) (m:=((ev L) (bw arg path)).fU) (n:=((ev L) (bw arg path)).no) w3;rw [e];simp only [Bool.false_or,aay,aax,Bool.or_false];cases bO:(fr L arg path).any (fun x=>decide (x.1.op=2)&&(x.2&&decide (x.1.cls.toNat=0))) with
 | true=>simp
 | false=>
  simp only [Bool.not_false,Bool.true_and,false_eq_true,if_false];have k1:∀ k,(jR w.owner.length L arg path).any (fun s => !lH L arg (path++[s])&&decide (jS w s=k))=((ev L) (bw arg path)).bl.any (fun s=>((ev L) (bw arg (path++[s]))).gB&&decide (jS w s=k)):=fun k=>I2 gb fun s au=>by rw [eY s au]
  have kY:∀ k,(jR w.owner.length L arg path).any (fun s => !dU (path++[s])&&decide (jS w s=k))=((ev L) (bw arg path)).bl.any (fun s => !zf (path++[s])&&decide (jS w s=k)):=fun k=>I2 gb fun s au=>by rw [aA s (qZ s au)]
  have Pq:∀ k,k<3→((ev L) (bw arg path)).bl.any (fun s=>((ev L) (bw arg (path++[s]))).gB&&decide (jS w s=k))=false:=fun k aD=>by
   rw [any_eq_false];intro s au h;have:=I5 hw bK (qZ s ((gb s).2 au));simp only [and_eq_true,decide_eq_true_eq] at h;omega
  have ab:∀ k,1≤k→¬ (k=1∨k=2)→∀ b:cg→Bool,(fr L arg path).any (fun x => !nP x&&(b x&&decide (x.1.cls.toNat=k)))=(fr L arg path).any (fun x=>decide (x.1.op=2)&&(b x&&decide (x.1.cls.toNat=k))):=fun k U ae b=>by
   rw [Bool.eq_iff_iff,any_eq_true,any_eq_true];constructor <;>
   ·rintro ⟨x,ab,h⟩
    refine ⟨x,ab,?_⟩;unfold nP at *;by_cases an:x.1.op=2
    ·simp only [an,decide_true,Bool.true_and,and_eq_true,decide_eq_true_eq,Bool.not_true,Bool.false_or,not_eq_true',or_eq_false_iff,decide_eq_false_iff_not] at h ⊢
     have:=sF bK ab an
     first|exact h.2|(obtain ⟨bd,bD⟩:=h;exact ⟨⟨by omega,by omega⟩,bd,bD⟩)
    ·simp [an] at h
  refine aat hw ?_ (if_pos C) ⟨?_,?_⟩ ?_ ?_
  ·intro k aD
   rw [if_neg ag,hm,k1,vu aE bK];by_cases xE:k=1∨k=2
   ·rw [b1 k xE]
    congr 1;rw [any_eq_false];intro x ab h;unfold nP at h;simp only [and_eq_true,not_eq_true',or_eq_false_iff,decide_eq_false_iff_not,decide_eq_true_eq,Bool.not_eq_false'] at h;have:=sF bK ab h.1.1;omega
   ·rw [ab k aD xE (fun x => !x.2)]
  ·rw [hm,vu aE bK,b1 1 (.inl C),Pq 1 ag];rfl
  ·rw [hm,vu aE bK,b1 2 (.inr C),Pq 2 ag];rfl
  ·intro k aD
   rw [hm,or_eq_true] at aD;rcases aD with aD|aD
   ·exact Pm aE bK aD
   ·obtain ⟨s,au,aD⟩:=any_eq_true.1 aD
    have:=I5 hw bK (qZ s ((gb s).2 au));simp only [and_eq_true,decide_eq_true_eq] at aD;omega
  ·intro k aD
   rw [az,kY,Ey aE bK,ab k ag ag (fun x=>x.2)]
omit aE in
theorem Ps:∀ (k:Nat) (path:List Int),path.length≤2→ph w L arg k path=sl w (ev L) arg k path
  | 0,_,_=>rfl
  | k+1,path,aE=>by
    rw [ph,sl,aar hw aE bK,aas hw aE bK,aaw hw aE bK (fun s au=>Ps k _ (xD bK au).2.2)]
omit aE in
theorem aaz:DB w L=nb w (ev L):=by
 unfold DB nb;congr 1;funext a;exact Ps hw bK 3 [] ba
end
end Go.dv
namespace Go.Proofs.YtnafpeohfbglmaaGreat
open Go.cW Go.dv
theorem aaA (w:bx) (hw:w.owner.length≤40) (L:List cg) (arg:Int) (path:List Int) (bK:nO w L) (aE:path.length≤2):aR Tryz.prog 177 [kP w L arg path] (.bool (xa w.owner.length L arg path)):=by
 have aq:=bC;have U:=IX w L arg path bK ag;have ae:=O7 w hw L arg path bK aE;have eQ:=bK.on arg path;have aW:xa w.owner.length L arg path=((fr L arg path).all (fun x => !ra x)&&tL w.owner.length L arg path):=rfl;refine aR.bj ai Tryz.func177 C C fun s I=>?_
 generalize fr L arg path=M at U eQ aW;have xB:=eQ.1;rw [aW];unfold kP oq cV bg at *;refine bZ ?_;refine ad.b0 [1,9,10] C I (σ:=Nat) (fun j=>[(11,.int .i64 (j:Int))]) (fun _=>[]) (fun j=>j≤M.length∧(M.all fun x => !ra x)=(M.drop j).all fun x => !ra x) (fun j=>M.length-j) 0 ⟨zero_le _,rfl⟩ (ck C) aY ?_;rintro j ⟨aK,ak⟩ I
 try simp only at aK ak I ⊢
 refine b2 ?_;refine ad.cond C (fun ar=>?_) (fun aV=>?_);rotate_left
 ·have aV:j=M.length:=by simp at aV;omega
  rw [ef ag,all_nil] at ak;rw [ak,Bool.true_and];refine c3 ?_;exact bm I
 have ar:j<M.length:=by simpa using ar
 obtain ⟨x,ab,bL⟩:=bV (f:=fun x:cg=>(ix x).bJ) ar;have e7:=eQ.at (mem_of_getElem? ab);have dn:=yI x e7.1;have bL:(M.map fun x=>(ix x).bJ)[j]? = some (ix x).bJ:=bL;rw [aj.bW] at bL;simp only [aj.bW] at dn;rw [drop_cons ab,all_cons] at ak;have iP:ra x=((decide (x.1.op=2)&&(decide (x.1.cls=0)||decide (x.1.cls=2)))==x.2):=rfl;unfold aj.cells at bL dn;cases az:x.2 with
 | true=>
  rw [az] at dn iP
  repeat' (first|(with_reducible first|apply ad.seq|apply bY|apply fm|apply fg|apply gG|apply ad.ret|apply ad.skip|apply ad.block)|refine cT C ?_|refine ad.cB ?_|refine aa.nil ?_|refine ad.e8 C ?_|refine ad.gr C ?_|refine cx C ?_|refine aa.skip C C C ?_|refine aa.idx ai _ C C C C C C C C C C C ch C ?_|refine aa.eC ai I C C C C C C te b3 ?_|refine aa.cS ai I C C C C C C C C C te b3 (fun I=>?_)|refine aa.d' ai I C C C C C C C (fun cy I=>?_)|refine aa.dQ C C C C C ch ?_|(fail_if_success refine aa.same true C ?_);(fail_if_success refine aa.same false C ?_);refine aa.gA C C (fun h=>?_) (fun h=>?_)|refine ad.cond C (fun h=>?_) (fun h=>?_))
  all_goals first
   | exact Fin.cp I C (aS.of_eq (congrArg af.bool (by rw [ak,show ra x=true by clear I ak U ae;grind];rfl)))
   | exact bn.mk (j+1) I ⟨ar,by rw [ak,show ra x=false by clear I ak U ae;grind];rfl⟩ b' aY qf
 | false=>
  rw [az] at dn iP
  repeat' (first|(with_reducible first|apply ad.seq|apply bY|apply fm|apply fg|apply gG|apply ad.ret|apply ad.skip|apply ad.block)|refine cT C ?_|refine ad.cB ?_|refine aa.nil ?_|refine ad.e8 C ?_|refine ad.gr C ?_|refine cx C ?_|refine aa.skip C C C ?_|refine aa.idx ai _ C C C C C C C C C C C ch C ?_|refine aa.eC ai I C C C C C C te b3 ?_|refine aa.cS ai I C C C C C C C C C te b3 (fun I=>?_)|refine aa.d' ai I C C C C C C C (fun cy I=>?_)|refine aa.dQ C C C C C ch ?_|(fail_if_success refine aa.same true C ?_);(fail_if_success refine aa.same false C ?_);refine aa.gA C C (fun h=>?_) (fun h=>?_)|refine ad.cond C (fun h=>?_) (fun h=>?_))
  all_goals first
   | exact Fin.cp I C (aS.of_eq (congrArg af.bool (by rw [ak,show ra x=true by clear I ak U ae;grind];rfl)))
   | exact bn.mk (j+1) I ⟨ar,by rw [ak,show ra x=false by clear I ak U ae;grind];rfl⟩ b' aY qf
theorem Pt:∀ (f:Nat) (n:Int) (l:List Int),n≤l7 f n l
  | 0,n,l=>Int.le_refl _
  | f+1,n,l=>by
    rw [l7];split
    · have:=Pt f (n+1) l;omega
    · exact Int.le_refl _
def Pu (b:Bool) (o:eB) (K:a'):Prop:=(∃ v,o = .ret (.cu [v,.bool b]))∧K=[]
theorem aaB (w:bx) (hw:w.owner.length≤40) (L:List cg) (arg:Int) (path:List Int) (bK:nO w L) (aE:path.length≤2):bE Tryz.prog 176 [kP w L arg path] [] (Pu (u5 w.owner.length L arg path)):=by
 have aq:=bC;have U:=IX w L arg path bK ag;have ae:=O7 w hw L arg path bK aE;have eQ:=bK.on arg path;have aW:u5 w.owner.length L arg path=match pg (fr L arg path) (-1000000000,1000000000,[]) with
  | none=>false
  | some a=>decide (A7 (a.2.2.length+1) a.1 a.2.2≤a.2.1)&&tL w.owner.length L arg path:=rfl
 refine bE.bj ai Tryz.func176 C C fun s I=>?_
 generalize fr L arg path=M at U eQ aW;have xB:=eQ.1;unfold Pu;generalize u5 w.owner.length L arg path=res at aW ⊢;unfold kP oq cV bg at *;refine bZ ?_;refine ad.h2 I 3 1 0 fun I=>?_
 refine ad.b0 [1,16,17] C I (σ:=Nat×Int×Int×List Int×bM) (fun q=>[(18,.int .i64 (q.1:Int)),(4,.int .i64 q.2.1),(5,.int .i64 q.2.2.1),(6,.aC 1 (q.2.2.2.1.map bb) q.2.2.2.2)]) (fun q=>[(q.2.2.2.2,.row 3 1 q.2.2.2.1.length)])
  (fun q=>q.1≤M.length∧pg M (-1000000000,1000000000,[])=pg (M.drop q.1) (q.2.1,q.2.2.1,q.2.2.2.1)∧q.2.2.2.1.length≤q.1∧(-1000000001≤q.2.1∧q.2.1≤1000000001) ∧ -1000000001≤q.2.2.1∧q.2.2.1≤1000000001) (fun q=>M.length-q.1) (0,-1000000000,1000000000,[],.nil) ⟨zero_le _,rfl,Nat.le_refl _,⟨by decide,by decide⟩,by decide,by decide⟩
  ⟨⟨_,rfl,aM⟩,⟨_,rfl,aM⟩,⟨_,rfl,aM⟩,⟨_,rfl,aS.nil gW⟩,trivial⟩ (aH.du _) ?_
 rintro ⟨j,gE,aQ,no,own⟩ ⟨aK,ak,nX,⟨lN,eW⟩,aaC,aaD⟩ I
 try simp only at aK ak nX lN eW aaC aaD I ⊢
 refine b2 ?_;refine ad.cond C (fun ar=>?_) (fun aV=>?_)
 ·have ar:j<M.length:=by simpa using ar
  obtain ⟨x,ab,bL⟩:=bV (f:=fun x:cg=>(ix x).bJ) ar;have e7:=eQ.at (mem_of_getElem? ab);have dn:=yI x e7.1;have bL:(M.map fun x=>(ix x).bJ)[j]? = some (ix x).bJ:=bL;rw [aj.bW] at bL;simp only [aj.bW] at dn;rw [drop_cons ab,pg] at ak;have df:IntKind.wrap .i64 (x.1.n-1)=x.1.n-1:=eo ag ag;unfold aj.cells at bL dn;have b5:x.1.op=2∨x.1.op=3∨x.1.op=4:=by have:=e7.1;unfold aj.cU at this;simp at this;omega
  rcases b5 with h|h|h
  ·rw [if_pos h] at ak
   rw [h] at dn;cases EB:(decide (x.1.cls>1) != x.2) with
   | true=>
    rw [EB,if_pos C] at ak;rw [ak] at aW;simp only at aW;rw [aW];refine ea ?_;refine ad.cond C (fun _=>?_) (fun h=>absurd (EB.symm.trans h) ba);refine jg ?_;exact Fin.bz I C aM .nil ⟨⟨_,rfl⟩,rfl⟩
   | false=>
    rw [EB,if_neg ba] at ak;refine ea ?_;refine ad.cond C (fun h=>absurd (EB.symm.trans h) ba) (fun _=>?_);refine fR ?_;exact bn.mk (j+1,gE,aQ,no,own) I ⟨ar,ak,by simp<;>omega,⟨by show -1000000001≤gE;omega,by show gE≤1000000001;omega⟩,by show -1000000001≤aQ;omega,by show aQ≤1000000001;omega⟩ BM BN qf
  ·rw [if_neg ag,if_pos h] at ak
   rw [h] at dn;cases az:x.2 with
   | true=>
    rw [az] at dn;rw [az,if_pos C] at ak;refine ea ?_;exact bn.mk (j+1,(max gE x.1.n),aQ,no,own) I ⟨ar,ak,by simp<;>omega,⟨by show -1000000001≤(max gE x.1.n);omega,by show (max gE x.1.n)≤1000000001;omega⟩,by show -1000000001≤aQ;omega,by show aQ≤1000000001;omega⟩ BM BN qf
   | false=>
    rw [az] at dn;rw [az,if_neg ba] at ak;refine ea ?_;exact bn.mk (j+1,gE,(min aQ (x.1.n-1)),no,own) I ⟨ar,ak,by simp<;>omega,⟨by show -1000000001≤gE;omega,by show gE≤1000000001;omega⟩,by show -1000000001≤(min aQ (x.1.n-1));omega,by show (min aQ (x.1.n-1))≤1000000001;omega⟩ BM BN qf
  ·rw [if_neg ag,if_neg ag] at ak
   rw [h] at dn;cases az:x.2 with
   | true=>
    rw [az] at dn;rw [az,if_pos C] at ak;refine ea ?_;refine aa.gf ai I C C C C C C C et C C C C C C C C a1 hc j2 ag (fun bR I=>?_);refine fu ?_;exact bn.mk (j+1,gE,aQ,(no++[x.1.n]),(.own bR)) I ⟨ar,ak,by simp<;>omega,⟨by show -1000000001≤gE;omega,by show gE≤1000000001;omega⟩,by show -1000000001≤aQ;omega,by show aQ≤1000000001;omega⟩ BM BN qf
   | false=>
    rw [az] at dn;rw [az,if_neg ba] at ak;refine ea ?_;exact bn.mk (j+1,(max gE x.1.n),(min aQ x.1.n),no,own) I ⟨ar,ak,by simp<;>omega,⟨by show -1000000001≤(max gE x.1.n);omega,by show (max gE x.1.n)≤1000000001;omega⟩,by show -1000000001≤(min aQ x.1.n);omega,by show (min aQ x.1.n)≤1000000001;omega⟩ BM BN qf
 have aV:j=M.length:=by simp at aV;omega
 rw [ef ag,pg] at ak;rw [ak] at aW;simp only [I1] at aW;refine bB ?_;refine ad.b0 [1,5,6] C I (σ:=Int) (fun n=>[(11,.int .i64 n)]) (fun _=>[(own,.row 3 1 no.length)]) (fun n=>gE≤n∧n≤1000000002∧l7 (no.length+1) gE no=l7 (no.length+1) n no) (fun n=>(1000000002-n).toNat) gE ⟨Int.le_refl _,by omega,rfl⟩ (ck C) (aH.du _) ?_;rintro n ⟨ta,yY,lS⟩ I
 try simp only at ta yY lS I ⊢
 refine b2 ?_;refine ad.cond C (fun hle=>?_) (fun py=>?_);rotate_left
 ·have py:aQ<n:=by simp at py;omega
  have:=Pt (no.length+1) n no;rw [decide_eq_false (by rw [lS];omega),Bool.false_and] at aW;rw [aW];refine dB ?_;exact Fin.bz I C aM .nil ⟨⟨_,rfl⟩,rfl⟩
 have hle:n≤aQ:=by simpa using hle
 refine jh ?_;refine ad.b0 [1,5,6,11,78,79] C I (σ:=Nat) (fun k=>[(80,.int .i64 (k:Int)),(12,.bool (!(no.take k).contains n))]) (fun _=>[(own,.row 3 1 no.length)]) (fun k=>k≤no.length) (fun k=>no.length-k) 0 (zero_le _) (ck C) (aH.all _) ?_;rintro k aD I
 try simp only at aD I ⊢
 refine b2 ?_;refine ad.cond C (fun cC=>?_) (fun dm=>?_)
 ·have cC:k<no.length:=by simpa using cC
  obtain ⟨y,ay,c'⟩:=bV (f:=bb) cC;have EC:=GL ay n;unfold bb at c';cases aA:(no.take k).contains n with
  | true=>
   rw [aA,Bool.true_or] at EC;refine bB ?_;exact bn.mk (k+1) I cC (by repeat (first|exact trivial|refine ⟨⟨_,rfl,aM⟩,?_⟩|refine ⟨⟨_,rfl,aS.of_eq (by (first|rw [jv ag]|rw [EC];rfl))⟩,?_⟩)) (aH.all _) (by show no.length-(k+1)<no.length-k;omega)
  | false=>
   rw [aA,Bool.false_or] at EC;have e:(y != n) = !(n==y):=by
    by_cases h:y=n
    ·subst h;simp
    ·rw [beq_eq_false_iff_ne.2 (Ne.symm h)];simpa using h
   refine bB ?_;exact bn.mk (k+1) I cC (by repeat (first|exact trivial|refine ⟨⟨_,rfl,aM⟩,?_⟩|refine ⟨⟨_,rfl,aS.of_eq (by (first|rw [jv ag]|(rw [EC,← e])))⟩,?_⟩)) (aH.all _) (by show no.length-(k+1)<no.length-k;omega)
 have dm:k=no.length:=by simp at dm;omega
 subst dm;rw [take_length];have tJ:l7 (no.length+1) n no=if no.contains n then l7 no.length (n+1) no else n:=rfl
 cases aA:no.contains n with
 | true=>
  have k3:=DF (n:=n) (l:=no) (by simpa using aA);have ab0:=Hz n no;rw [aA,if_pos C] at tJ;refine bB ?_;exact bn.mk (n+1) I ⟨by omega,by omega,by rw [lS,tJ];exact DG _ _ _ _ ag ag⟩ (by repeat (first|exact trivial|refine ⟨⟨_,rfl,aM⟩,?_⟩|refine ⟨⟨_,rfl,aS.of_eq yn⟩,?_⟩)) (aH.all _) (by show (1000000002-(n+1)).toNat<(1000000002-n).toNat;omega)
 | false=>
  rw [aA,if_neg ba] at tJ;rw [lS,tJ,decide_eq_true hle,Bool.true_and] at aW;rw [aW];refine bZ ?_;exact Fin.bz I C aM .nil ⟨⟨_,rfl⟩,rfl⟩
def Pv (b:Bool) (o:eB) (_K:a'):Prop:=∃ v,o = .ret (.cu [v,.bool b])
theorem aaE (w:bx) (hw:fT w) (L:List cg) (arg:Int) (path:List Int) (bK:nO w L) (aE:path.length≤2) (cn:List Int→Bool) (sf:∀ s,na L arg path s=true→aR Tryz.prog 135 [kP w L arg (path++[s])] (.bool (cn (path++[s])))) :
    bE Tryz.prog 179 [kP w L arg path] [] (Pv (xb w L cn arg path)):=by
  have aq:=bC;have qX:=hw.iV;have mn:=hw.bl;have U:=IX w L arg path bK ag;have ae:=O6 w hw.bl L arg path bK aE;have eQ:=bK.on arg path;have aW:xb w L cn arg path=match p9 (fr L arg path) (fun _=>false,fun _=>false) with
    | none=>false
    | some a=>match si w L cn arg path (jR w.owner.length L arg path) a with
      | none=>false
      | some a => !a.2 0&&(range (3+w.ps.length)).all fun k => !(hn w.ps w.ps.length (fun k=>if k=0 then false else a.1 k) k&&a.2 k):=rfl
  have qZ:∀ s∈jR w.owner.length L arg path,na L arg path s=true∧0≤s∧s<(w.owner.length:Int):=fun s au=>by
    have h:=(BV aE bK.2 s).1 ((Ew aE bK.2).1 au);have:=xD bK.2 h;exact ⟨h,this.1,this.2.1⟩
  have kK:=fun k:Int=>Hs w L arg path k ag
  have lA:∀ k:Int,(path++[k]).length≤3:=fun k=>by rw [length_append];simp;omega
  have h7:=fun k:Int=>O5 w L arg (path++[k]) bK (lA k)
  have my:(jR w.owner.length L arg path).length≤40:=by
    unfold jR;rw [length_map];have:=length_filter_le (fun s:Nat=>na L arg path (s:Nat)) (range w.owner.length);rw [length_range] at this;omega
  refine bE.bj ai Tryz.func179 C C fun s I=>?_
  generalize fr L arg path=M at U eQ aW;generalize jR w.owner.length L arg path=l at ae qZ aW my;have xB:=eQ.1;unfold Pv;generalize xb w L cn arg path=res at aW ⊢;have df:IntKind.wrap .i64 (3+((w.ps.map fun l=>af.aC 1 (l.map bb) .bc).length:Int))=((3+w.ps.length:Nat):Int):=by rw [length_map,eo ag ag];push_cast;rfl
  obtain ⟨gS,uu⟩:∃ gS,gS=3+w.ps.length:=⟨_,rfl⟩;rw [← uu] at df;unfold kP oq cV bg at *;refine dL ?_;refine aa.uN ai I gS C C C C C C C C C C (congrArg (fun z=>some (af.int .i64 z)) df) (congrArg (fun z=>some (af.int .i64 z)) df) (by show _*1≤_;omega) ag (fun b I=>?_);rw [GK] at I ⊢;refine ht ?_;refine aa.uN ai I gS C C C C C C C C C C (congrArg (fun z=>some (af.int .i64 z)) df) (congrArg (fun z=>some (af.int .i64 z)) df) (by show _*1≤_;omega) ag (fun dA I=>?_);rw [GK] at I ⊢;refine c3 ?_;refine ad.b0 [1,4,5,32,33] C I (σ:=Nat×(Nat→Bool)×(Nat→Bool)) (fun q=>[(34,.int .i64 (q.1:Int))]) (fun q=>[(.own dA,.box 4 (hW gS q.2.2)),(.own b,.box 4 (hW gS q.2.1))]) (fun q=>q.1≤M.length∧p9 M (fun _=>false,fun _=>false)=p9 (M.drop q.1) q.2) (fun q=>M.length-q.1) (0,(fun _=>false),(fun _=>false)) ⟨zero_le _,rfl⟩ (ck C) (aH.all _) ?_;rintro ⟨j,f,g⟩ ⟨aK,ak⟩ I
  try simp only at aK ak I ⊢
  refine b2 ?_;refine ad.cond C (fun ar=>?_) (fun aV=>?_)
  · have ar:j<M.length:=by simpa using ar
    obtain ⟨x,ab,bL⟩:=bV (f:=fun x:cg=>(ix x).bJ) ar;have e7:=eQ.at (mem_of_getElem? ab);have dn:=yI x e7.1;have bL:(M.map fun x=>(ix x).bJ)[j]? = some (ix x).bJ:=bL;rw [aj.bW] at bL;simp only [aj.bW] at dn;rw [drop_cons ab,p9] at ak;have ct:=e7.2.2.2.2;unfold aj.cells at bL dn;by_cases g1:x.1.op=2;rotate_left
    · rw [if_pos (.inl g1)] at ak
      cases az:x.2 with
      | true=>
        rw [az] at dn;rw [az,if_pos C] at ak;refine ea ?_;refine aa.ds 51 C (by simpa using g1) ?_;refine bB ?_;exact bn.mk (j+1,f,g) I ⟨ar,ak⟩ b' (aH.all _) qf
      | false=>
        rw [az] at dn;rw [az,if_neg ba] at ak;rw [ak] at aW;simp only at aW;refine ea ?_;refine aa.ds 51 C (by simpa using g1) ?_;refine e5 ?_;exact Fin.bz (K:=[]) I C aM .nil ⟨_,by rw [aW]⟩
    rw [g1] at dn;have ct:=ct g1;by_cases g2:x.1.cls=1
    · rw [g2] at dn
      rw [if_pos (by simp [g1,g2])] at ak;cases az:x.2 with
      | true=>
        rw [az] at dn;rw [az,if_pos C] at ak;refine ea ?_;exact bn.mk (j+1,f,g) I ⟨ar,ak⟩ b' (aH.all _) qf
      | false=>
        rw [az] at dn;rw [az,if_neg ba] at ak;rw [ak] at aW;simp only at aW;refine ea ?_;exact Fin.bz (K:=[]) I C aM .nil ⟨_,by rw [aW]⟩
    by_cases g3:x.1.cls=2
    · rw [g3] at dn
      rw [if_pos (by simp [g1,g3])] at ak;cases az:x.2 with
      | true=>
        rw [az] at dn;rw [az,if_pos C] at ak;refine ea ?_;exact bn.mk (j+1,f,g) I ⟨ar,ak⟩ b' (aH.all _) qf
      | false=>
        rw [az] at dn;rw [az,if_neg ba] at ak;rw [ak] at aW;simp only at aW;refine ea ?_;exact Fin.bz (K:=[]) I C aM .nil ⟨_,by rw [aW]⟩
    rw [if_neg (by simp [g1,g2,g3])] at ak;obtain ⟨c,aA⟩:∃ c:Nat,x.1.cls=c:=⟨x.1.cls.toNat,by omega⟩;rw [aA] at dn g2 g3 ak ct;rw [toNat_natCast] at ak;cases az:x.2 with
    | true=>
      rw [az] at dn;rw [az,if_pos C] at ak;refine ea ?_;refine aa.c2 56 C (by simpa using g2) ?_;refine fI ?_;refine ad.cond C (fun h=>absurd fZ g3) (fun _=>?_);refine bB ?_;refine aa.fo ai c C C C C C C C C C C ag ?_;refine aa.j8 ai I (hW gS fun k=>if k=c then true else g k) C C C C C C C C C a1 (by rw [nK];show c*1+1≤_;omega) BO (fun I=>?_);refine fu ?_;exact bn.mk (j+1,f,fun k=>if k=c then true else g k) I ⟨ar,ak⟩ b' aY qf
    | false=>
      rw [az] at dn;rw [az,if_neg ba] at ak;refine ea ?_;refine aa.c2 56 C (by simpa using g2) ?_;refine fI ?_;refine ad.cond C (fun h=>absurd fZ g3) (fun _=>?_);refine bB ?_;refine aa.fo ai c C C C C C C C C C C ag ?_;refine aa.j8 ai I (hW gS fun k=>if k=c then true else f k) C C C C C C C C C a1 (by rw [nK];show c*1+1≤_;omega) BO (fun I=>?_);refine fu ?_;exact bn.mk (j+1,(fun k=>if k=c then true else f k),g) I ⟨ar,ak⟩ b' aY qf
  have aV:j=M.length:=by simp at aV;omega
  rw [ef ag,p9] at ak;rw [ak] at aW;simp only at aW;clear ak;refine c3 ?_;refine ad.b0 [1,4,5,71,72] C I (σ:=Nat×(Nat→Bool)×(Nat→Bool)) (fun q=>[(73,.int .i64 (q.1:Int))]) (fun q=>[(.own dA,.box 4 (hW gS q.2.2)),(.own b,.box 4 (hW gS q.2.1))]) (fun q=>q.1≤l.length∧si w L cn arg path l (f,g)=si w L cn arg path (l.drop q.1) q.2) (fun q=>l.length-q.1) (0,f,g) ⟨zero_le _,rfl⟩ (ck C) (aH.all _) ?_;rintro ⟨i,f2,g2⟩ ⟨aQ,cD⟩ I
  try simp only at aQ cD I ⊢
  refine b2 ?_;refine ad.cond C (fun ar=>?_) (fun dm=>?_)
  · have ar:i<l.length:=by simpa using ar
    obtain ⟨y,ay,c'⟩:=bV (f:=bb) ar;obtain ⟨aaF,ab1,h8⟩:=qZ y (mem_of_getElem? ay);have sk:=sf y aaF;have kK:=kK y;have h7:=h7 y;rw [drop_cons ay,si] at cD;obtain ⟨k,rfl⟩:∃ k:Nat,y=k:=⟨y.toNat,by omega⟩;have sg:k<w.owner.length:=by omega
    obtain ⟨o,ah,HC⟩:=bV (f:=bb) sg;have mM:=hw.own o (mem_of_getElem? ah);obtain ⟨jD,rfl⟩:∃ q:Nat,o=q:=⟨o.toNat,by omega⟩;rw [toNat_natCast,getD_eq_getElem?_getD,ah,getD_some,toNat_natCast] at cD;unfold bb at c' HC;unfold bb at sk kK h7;cases Bq:lH L arg (path++[(k:Int)])<;>cases Iy:cn (path++[(k:Int)])<;>rw [Bq] at h7 cD<;>rw [Iy] at sk cD<;>simp only [Bool.not_false,Bool.not_true,Bool.and_true,Bool.and_false,false_eq_true,if_true,if_false] at cD
    · rw [cD] at aW
      simp only at aW;refine ea ?_;exact Fin.bz (K:=[]) I C aM .nil ⟨_,by rw [aW]⟩
    · refine ea ?_
      refine aa.fo ai jD C C C C C C C C C C ag ?_;refine aa.j8 ai I (hW gS fun k=>if k=jD then true else f2 k) C C C C C C C C C a1 (by rw [nK];show jD*1+1≤_;omega) BO (fun I=>?_);refine bB ?_;exact bn.mk (i+1,(fun k=>if k=jD then true else f2 k),g2) I ⟨ar,cD⟩ b' aY vq
    · refine ea ?_
      refine aa.fo ai jD C C C C C C C C C C ag ?_;refine aa.j8 ai I (hW gS fun k=>if k=jD then true else g2 k) C C C C C C C C C a1 (by rw [nK];show jD*1+1≤_;omega) BO (fun I=>?_);refine fu ?_;exact bn.mk (i+1,f2,fun k=>if k=jD then true else g2 k) I ⟨ar,cD⟩ b' aY vq
    · refine ea ?_
      exact bn.mk (i+1,f2,g2) I ⟨ar,cD⟩ b' (aH.all _) vq
  have dm:i=l.length:=by simp at dm;omega
  rw [ef ag,si] at cD;rw [cD] at aW;simp only at aW;clear cD sf kK h7 ae;refine bB ?_;refine aa.fo ai 0 C C C C C C C C C C ag ?_;refine aa.j8 ai I (hW gS fun k=>if k=0 then false else f2 k) C C C C C C C C C a1 (by rw [nK];show 0*1+1≤_;omega) BO (fun I=>?_);refine ht ?_;refine aa.fo ai 0 C C C C C C C C C C ag ?_;refine aa.j7 ai I C C C C C C a1 C (v := .bool (g2 0)) (by rw [Nat.zero_mul];exact tB g2 ag) ?_;cases Pw:g2 0 with
  | true=>
    rw [Pw] at aW;have aW:res=false:=aW;refine ew ?_;exact Fin.bz (K:=[]) I C aM .nil ⟨_,by rw [aW]⟩
  | false=>
  rw [Pw,Bool.not_false,Bool.true_and] at aW;refine bB ?_;refine aa.qJ ai C C C C C C C ?_;refine dC ?_;obtain ⟨f3,Px⟩:∃ f3:Nat→Bool,f3=fun k=>if k=0 then false else f2 k:=⟨_,rfl⟩
  rw [← Px] at I aW ⊢;clear Px;refine ad.b0 [1,4,5] C I (σ:=Nat×(Nat→Bool)) (fun q=>[(15,.int .i64 (2+q.1:Int))]) (fun q=>[(.own b,.box 4 (hW gS q.2)),(.own dA,.box 4 (hW gS g2))]) (fun q=>q.1≤w.ps.length∧hn w.ps w.ps.length f3=hn w.ps q.1 q.2) (fun q=>q.1) (w.ps.length,f3) ⟨Nat.le_refl _,rfl⟩ (by repeat (first|exact trivial|refine ⟨⟨_,rfl,aM⟩,?_⟩|refine ⟨⟨_,rfl,aS.of_eq (by (rw [eo ag ag];congr 1;rw [uu];push_cast;omega))⟩,?_⟩)) aY ?_;rintro ⟨m,f4⟩ ⟨hm,e4⟩ I
  try simp only at hm e4 I ⊢
  refine b2 ?_;refine ad.cond C (fun kL=>?_) (fun j6=>?_)
  · have kL:1≤m:=by simp at kL;omega
    obtain ⟨q,rfl⟩:∃ q,m=q+1:=⟨m-1,by omega⟩;obtain ⟨pl,hQ,aaG⟩:=bV (f:=fun l:List Int=>af.aC 1 (l.map bb) .bc) (show q<w.ps.length by omega);have ab2:=hw.short pl (mem_of_getElem? hQ);have GM:=fun p aE=>wG hw hQ (p:=p) aE
    have kl:(2+((q+1:Nat):Int))=((3+q:Nat):Int):=by push_cast;omega
    have iG:IntKind.wrap .i64 (((3+q:Nat):Int)-3)=(q:Int):=by rw [eo ag ag];omega
    have ZE:IntKind.wrap .i64 (((3+q:Nat):Int)-1)=2+(q:Int):=by rw [eo ag ag];omega
    rw [hn,getD_eq_getElem?_getD,hQ,getD_some] at e4;rw [kl];refine dC ?_;refine aa.fo ai (3+q) C C C C C C C C C C ag ?_;refine aa.j7 ai I C C C C C C a1 C (v := .bool (f4 (3+q))) (by rw [mul_one];exact tB f4 ag) ?_;cases Py:f4 (3+q) with
    | false=>
      have e:(fun k=>f4 k||(f4 (3+q)&&pl.contains (k:Int)))=f4:=funext fun k=>by rw [Py];simp
      rw [e] at e4;refine bB ?_;exact bn.mk (q,f4) I ⟨by show q≤_;omega,e4⟩ OU aY (lt_succ_self q)
    | true=>
      rw [Py] at e4;simp only [Bool.true_and] at e4;refine bB ?_;refine aa.idx ai q C C C C C C C C C C iG aaG C ?_;refine dC ?_
      refine ad.b0 [1,4,5,15,133,134] C I (σ:=Nat) (fun i=>[(135,.int .i64 (i:Int))]) (fun i=>[(.own b,.box 4 (hW gS fun k=>f4 k||(pl.take i).contains (k:Int))),(.own dA,.box 4 (hW gS g2))]) (fun i=>i≤pl.length) (fun i=>pl.length-i) 0 (zero_le _) (ck C) (by
        rw [show (fun k=>f4 k||(pl.take 0).contains (k:Int))=f4 from funext fun k=>by rw [List.take_zero];simp]
        exact aH.all _) ?_
      rintro i aQ I
      try simp only at aQ I ⊢
      refine b2 ?_;refine ad.cond C (fun ar=>?_) (fun aV=>?_)
      · have ar:i<pl.length:=by simpa using ar
        obtain ⟨p,aE,e9⟩:=bV (f:=bb) ar;have Va:=GM p (mem_of_getElem? aE);obtain ⟨xF,rfl⟩:∃ xF:Nat,p=xF:=⟨p.toNat,by omega⟩;have Dp:∀ k,(f4 k||(pl.take (i+1)).contains (k:Int))=if k=xF then true else (f4 k||(pl.take i).contains (k:Int)):=fun k=>by
          rw [GL aE];by_cases e:k=xF
          · subst e;rw [if_pos C];simp
          · rw [if_neg e,show ((k:Int)==(xF:Int))=false by rw [beq_eq_false_iff_ne];omega,Bool.or_false]
        unfold bb at e9;refine dC ?_;refine aa.fo ai xF C C C C C C C C C C ag ?_;refine aa.j8 ai I (hW gS fun k=>f4 k||(pl.take (i+1)).contains (k:Int)) C C C C C C C C C a1 (by rw [nK];show xF*1+1≤_;omega) (by rw [pT,mul_one];exact AN Dp) (fun I=>?_);refine fu ?_;exact bn.mk (i+1) I ar b' aY (by show pl.length-(i+1)<pl.length-i;omega)
      have aV:i=pl.length:=by simp at aV;omega
      rw [aV,take_length] at I ⊢;refine bB ?_;exact bn.mk (q,fun k=>f4 k||pl.contains (k:Int)) I ⟨by show q≤_;omega,e4⟩ OU aY (lt_succ_self q)
  have j6:m=0:=by simp at j6;omega
  subst j6;rw [hn] at e4;rw [e4] at aW;clear e4;refine bB ?_;refine aa.qJ ai C C C C C C C ?_;refine dC ?_;refine ad.b0 [4,5,144] C I (σ:=Nat) (fun i=>[(145,.int .i64 (i:Int))]) (fun _=>[(.own b,.box 4 (hW gS f4)),(.own dA,.box 4 (hW gS g2))]) (fun i=>i≤gS∧((range gS).all fun k => !(f4 k&&g2 k))=((range gS).drop i).all fun k => !(f4 k&&g2 k)) (fun i=>gS-i) 0 ⟨zero_le _,rfl⟩ (ck C) (aH.all _) ?_;rintro i ⟨aQ,bh⟩ I
  try simp only at aQ bh I ⊢
  refine b2 ?_;refine ad.cond C (fun ar=>?_) (fun aV=>?_)
  · have ar:i<gS:=by simpa using ar
    rw [drop_cons (List.getElem?_range ar),all_cons] at bh;refine bB ?_;refine aa.fo ai i C C C C C C C C C C ar ?_;refine aa.j7 ai I C C C C C C a1 C (v := .bool (f4 i)) (by rw [mul_one];exact tB f4 ar) ?_;cases vo:f4 i with
    | false=>
      rw [vo] at bh;refine bB ?_;exact bn.mk (i+1) I ⟨ar,bh⟩ b' (aH.all _) (by show gS-(i+1)<gS-i;omega)
    | true=>
      rw [vo,Bool.true_and] at bh;refine dS ?_;refine aa.fo ai i C C C C C C C C C C ar ?_;refine aa.j7 ai I C C C C C C a1 C (v := .bool (g2 i)) (by rw [mul_one];exact tB g2 ar) ?_;cases DY:g2 i with
      | true=>
        rw [DY] at bh;have aW:res=false:=by rw [aW,← uu,bh];rfl
        refine e5 ?_;exact Fin.bz (K:=[]) I C aM .nil ⟨_,by rw [aW]⟩
      | false=>
        rw [DY] at bh;refine bB ?_;exact bn.mk (i+1) I ⟨ar,bh⟩ b' (aH.all _) (by show gS-(i+1)<gS-i;omega)
  have aV:i=gS:=by simp at aV;omega
  have aW:res=true:=by rw [aW,← uu,bh,aV,List.drop_of_length_le ba];rfl
  refine dB ?_;exact Fin.bz (K:=[]) I C (aS.cu (.cons (aS.any _) (.one aM))) .nil ⟨.any,by rw [aW]⟩
theorem Pz (w:bx) (hw:fT w) (L:List cg) (arg:Int) (bK:nO w L):∀ (k:Nat) (path:List Int),path.length≤2→3≤k+path.length→aR Tryz.prog 135 [kP w L arg path] (.bool (ph w L arg k path))
  | 0,path,aE,an=>by omega
  | k+1,path,aE,an=>by
    have U:=aaB w hw.bl L arg path bK aE;have ae:=aaA w hw.bl L arg path bK aE
    have bd:=aaE w hw L arg path bK aE (ph w L arg k) (fun s au=>by
      have:=(xD bK.2 au).2.2
      have e:(path++[s]).length=path.length+1:=by simp
      exact Pz w hw L arg bK k (path++[s]) ag ag)
    have hm:ph w L arg (k+1) path=(u5 w.owner.length L arg path||(xa w.owner.length L arg path||xb w L (ph w L arg k) arg path)):=by rw [ph]
    rw [hm];refine aR.bj ai Tryz.func135 C C fun s I=>?_
    unfold kP oq cV bg at *;refine dL ?_;refine aa.b9 rfl rfl rfl rfl rfl U I .nil ?_ (fun _ _ ⟨⟨_,h⟩,_⟩ _=>by cases h);rintro _ _ ⟨⟨v,⟨⟩⟩,rfl⟩ I;cases u5 w.owner.length L arg path with
    | true=>
      rw [Bool.true_or];refine ew ?_;exact bm I
    | false=>
    rw [Bool.false_or];cases lJ:xa w.owner.length L arg path with
    | true=>
      rw [lJ] at ae;rw [Bool.true_or];refine bZ ?_;exact bm I
    | false=>
    rw [lJ] at ae;rw [Bool.false_or];refine bZ ?_;refine aa.b9 rfl rfl rfl rfl rfl bd I .nil ?_ (fun _ _ ⟨_,h⟩ _=>by cases h);rintro _ aO ⟨v,⟨⟩⟩ I;refine ew ?_;exact bm I
theorem aaH (w:bx) (hw:fT w) (L:List cg) (bK:nO w L):aR Tryz.prog 89 [eF w,oq L] (.bool (DB w L)):=by
 have aq:=bC;refine aR.bj ai Tryz.func89 C C fun s I=>?_
 have U:=fun a:Nat=>Pz w hw L (a:Int) bK 3 [] ba ba
 have en:DB w L=(range 3).all fun a=>ph w L ((a:Nat):Int) 3 []:=rfl
 rw [en];unfold kP oq eF eO cV bg at *;refine gg ?_;refine ad.b0 [1,2] C I (σ:=Nat) (fun i=>[(5,.int .i64 (i:Int))]) (fun _=>[]) (fun i=>i≤3∧((range 3).all fun a=>ph w L ((a:Nat):Int) 3 [])=((range 3).drop i).all fun a=>ph w L ((a:Nat):Int) 3 []) (fun i=>3-i) 0 ⟨zero_le _,rfl⟩ (ck C) aY ?_;rintro i ⟨aQ,bh⟩ I
 try simp only at aQ bh I ⊢
 refine b2 ?_;refine ad.cond C (fun ar=>?_) (fun aV=>?_);rotate_left
 ·have aV:i=3:=by simp at aV;omega
  rw [bh,aV];refine dB ?_;exact bm I
 have ar:i<3:=by simp at ar;omega
 rw [drop_cons (List.getElem?_range ar),all_cons] at bh;have U:=aR.args (.one (aS.agg (.cons aM (.cons aM (.cons aM (.cons aM (.cons (aS.empty (sz:=0) (own := .nil)) (.one aM)))))))) (U i);cases aA:ph w L ((i:Nat):Int) 3 [] with
 | false=>
  rw [aA] at U bh;rw [bh];refine ea ?_;exact bm I
 | true=>
  rw [aA] at U bh;refine ea ?_;exact bn.mk (i+1) I ⟨ar,bh⟩ b' aY (by show 3-(i+1)<3-i;omega)
theorem aaI (f:aj):aR Tryz.prog 129 [f.bJ] (f.not.bJ):=by
 have aq:=bC;refine aR.bj ai Tryz.func129 C C fun s I=>?_
 rw [aj.bW,aj.bW];unfold aj.cells
 repeat (first|(refine Ko I ?_;clear I;intro I)|refine aa.d' ai I rfl rfl rfl rfl rfl rfl rfl (fun cy I=>?_))
 refine Fin.cp I (n5 C C (bp.get a1 I) C) (aS.trans (aS.agg (.cons aM (.cons aM (.cons (aS.empty (sz':=1)) (.cons aM (.cons aM (.one aS.bc))))))) (aS.of_eq ?_));exact congrArg (fun z=>af.agg [.int .i64 5,.int .i64 0,.aC 1 [] .bc,.int .i64 0,.int .i64 0,.aC 6 [z] .bc]) (aj.bW f).symm
theorem PA:∀ (l:List aj) (i v j:Nat) (x:aj),l[j]? = some x→(sm i l v)[j]? = some (x,!v.testBit (i+j))
  | y::r,i,v,0,x,h=>by
    rw [sm];have:y=x:=by simpa using h
    rw [this];rfl
  | y::r,i,v,j+1,x,h=>by
    rw [sm,List.getElem?_cons_succ,PA r (i+1) v j x fZ];rw [show i+1+j=i+(j+1) by omega]
theorem PB:∀ (l:List aj) (i v:Nat),(sm i l v).length=l.length
 | [],_,_=>rfl
 | y::r,i,v=>by rw [sm,length_cons,PB r,length_cons]
theorem PC {l:List aj} {v j:Nat} {x:aj} (h:l[j]? = some x):(sn l v)[j]? = some (x,!v.testBit j):=by
 have:=PA l 0 v j x h;rwa [Nat.zero_add] at this
theorem I6 (l:List aj) (v:Nat):(sn l v).length=l.length:=PB l 0 v
theorem aaJ {w:bx} {l:List aj} (aB:iY w l) (ij:l.length≤7) (v:Nat):nO w (sn l v):=by
 refine ⟨by rw [I6];omega,fun x ab=>?_⟩;obtain ⟨j,aK⟩:=List.getElem?_of_mem ab;have vV:=qM aK;rw [I6] at vV;have h:=PC (v:=v) (getElem?_eq_getElem vV);rw [aK] at h;simp only [Option.some.injEq] at h;subst h;have:=aB _ (List.getElem_mem vV);rw [m0,and_eq_true] at this;exact ⟨this.1.1,this.2⟩
theorem aaK (p:bP) (aE:fN p) (dg:fG p=true) (l:List aj) (fX:l.length≤7) (cX:iY (b6 p) l) (v:Nat) (av:v<2^63):aR Tryz.prog 82 [cJ p,c4 l,.int .i64 (v:Int)] (.bool (nc (b6 p) l v)):=by
 have aq:=bC;have lG:=vi dg;have PD:=aaJ cX fX v;have U:=aaH (b6 p) lG (sn l v) PD;have ae:=AS p aE II;have an:=fun i (aQ:i<64)=>IW v i av aQ
 rw [aaz lG PD.2] at U;have aA:nc (b6 p) l v=nb (b6 p) (ev (sn l v)):=rfl;rw [aA];have my:=I6 l v;refine aR.bj ai Tryz.func82 C C fun s I=>?_
 generalize nb (b6 p) (ev (sn l v))=res at *;obtain ⟨xs,cY⟩:∃ xs:Nat→List af,∀ j,xs j=((sn l v).take j).map (fun x=>(ix x).bJ):=⟨_,fun _=>rfl⟩;have br:xs 0=[]:=by rw [cY];rfl
 have yv:∀ j,(xs j).length≤j:=fun j=>by rw [cY,length_map,length_take];omega
 unfold cJ cL eF eO cV bg c4 oq at *;refine gg ?_;refine ad.h2 I 58 6 0 fun I=>?_
 refine ad.b0 [1,2,3] C I (σ:=Nat×bM) (fun q=>[(8,.int .i64 (q.1:Int)),(7,.aC 6 (xs q.1) q.2)]) (fun q=>[(q.2,.row 58 6 (xs q.1).length)]) (fun q=>q.1≤l.length) (fun q=>l.length-q.1) (0,.nil) (zero_le _) ⟨⟨_,rfl,aM⟩,⟨_,rfl,by rw [br];exact aS.nil gW⟩,trivial⟩ uR ?_;rintro ⟨j,own⟩ aK I;simp only at aK I ⊢;refine b2 ?_;refine ad.cond C (fun ar=>?_) (fun aV=>?_);rotate_left
 ·have aV:j=l.length:=by simp at aV;omega
  subst aV;have he:xs l.length=(sn l v).map (fun x=>(ix x).bJ):=by rw [cY,← my,take_length]
  rw [he];refine c3 ?_;exact bm I
 have ar:j<l.length:=by simpa using ar
 obtain ⟨x,ab,bL⟩:=bV (f:=aj.bJ) ar;have au:=cY (j+1);rw [iH (PC (v:=v) ab),map_append,← cY] at au;have au:xs (j+1)=xs j++[(ix (x,!v.testBit j)).bJ]:=au;have dd:(xs (j+1)).length=(xs j).length+1:=by rw [au];simp
 have lp:=yv j;have an:=an j ag;have bd:=aaI x;rw [aj.bW] at bL;cases lx:v.testBit j with
 | true=>
  rw [lx] at an au;rw [show ix (x,!true)=x from rfl,aj.bW] at au;unfold aj.cells at bL au;refine c3 ?_;refine aa.gf ai I C C C C C C C et C C C C C C C C a1 hc yX ag (fun bR I=>?_);refine fu ?_;exact bn.mk (j+1,.own bR) I ar j1 tw l3
 | false=>
  rw [lx] at an au;rw [show ix (x,!false)=x.not from rfl,aj.bW] at au;rw [aj.bW,aj.bW] at bd;unfold aj.cells at bL bd au;refine c3 ?_;refine aa.gf ai I C C C C C C C et C C C C C C C C a1 hc yX ag (fun bR I=>?_);refine fu ?_;exact bn.mk (j+1,.own bR) I ar j1 tw l3
theorem PE (p:bP) (n:Int):aR Tryz.prog 97 [cJ p,.int .i64 n] (.bool (mG p n)):=by
 have aq:=bC;refine aR.bj ai Tryz.func97 C C fun s I=>?_
 unfold cJ cL bg mG
 repeat' (first|(with_reducible first|apply ad.seq|apply bY|apply ad.ret)|refine cT C ?_|refine ad.cB ?_|refine aa.nil ?_|refine cx C ?_|refine aa.skip C C C ?_|(fail_if_success refine aa.same true C ?_);(fail_if_success refine aa.same false C ?_);refine aa.gA C C (fun h=>?_) (fun h=>?_))
 all_goals exact Fin.cp I C (aS.of_eq qS)
theorem aaL (p:bP) (aE:fN p) (dg:fG p=true) (n:Int) (fX:(dc p n).length≤7):aR Tryz.prog 79 [cJ p,.int .i64 n] (.aC 1 (iZ (ka (b6 p) (dc p n))) .bc):=by
 have aq:=bC;have U:=BU p aE dg n;have cX:=(D8 dg n).1;have ae:=fun v av=>aaK p aE dg (dc p n) fX cX v av
 generalize dc p n=l at *;have vk:2^l.length≤2^7:=pow_le_pow_right ag fX;have tC:ka (b6 p) l=oF (b6 p) l (2^l.length):=rfl;rw [tC];refine aR.bj ai Tryz.func79 C C fun s I=>?_
 obtain ⟨xs,cY⟩:∃ xs:Nat→List af,∀ j,xs j=iZ (oF (b6 p) l j):=⟨_,fun _=>rfl⟩;have br:xs 0=[]:=by rw [cY];rfl
 have yv:∀ j,(xs j).length≤j:=fun j=>by rw [cY];unfold iZ;rw [length_map];exact OD _ _ _
 have vl:∀ j,xs (j+1)=xs j++(if nc (b6 p) l j then [.int .i64 (j:Int)] else []):=fun j=>by
  rw [cY,cY,OC];unfold iZ;rw [map_append];split<;>rfl
 unfold cJ cL bg c4 at *;refine bZ ?_;refine ad.h2 I 3 1 0 fun I=>?_
 refine ad.b0 [1,2,5] C I (σ:=Nat×bM) (fun q=>[(7,.int .i64 (q.1:Int)),(6,.aC 1 (xs q.1) q.2)]) (fun q=>[(q.2,.row 3 1 (xs q.1).length)]) (fun q=>q.1≤2^l.length) (fun q=>2^l.length-q.1) (0,.nil) (zero_le _) ⟨⟨_,rfl,aM⟩,⟨_,rfl,by rw [br];exact aS.nil gW⟩,trivial⟩ uR ?_;rintro ⟨j,own⟩ aK I;simp only at aK I ⊢;refine jM ?_;refine aa.shl ((2^l.length:Nat):Int) C C C C C C ag (by rw [length_map];exact Eg fX) ?_;refine fI ?_;refine ad.cond C (fun ar=>?_) (fun aV=>?_);rotate_left
 ·have aV:j=2^l.length:=by
   have:¬ ((j:Int)<((2^l.length:Nat):Int)):=by simpa using aV
   omega
  subst aV;rw [cY];refine dB ?_;exact Fin.cp I C aS.bc
 have ar:j<2^l.length:=by
  have:((j:Int)<((2^l.length:Nat):Int)):=by simpa using ar
  omega
 have au:=vl j;have lp:=yv j;have ae:=ae j ag;cases aA:nc (b6 p) l j with
 | false=>
  rw [aA,if_neg ba,append_nil] at au;rw [aA] at ae;refine bZ ?_;exact bn.mk (j+1,own) I ar j1 yk (by show 2^l.length-(j+1)<2^l.length-j;omega)
 | true=>
  rw [aA,if_pos C] at au;rw [aA] at ae;have dd:(xs (j+1)).length=(xs j).length+1:=by rw [au];simp
  refine c3 ?_;refine aa.gf ai I C C C C C C C et C C C C C C C C a1 hc j2 ag (fun bR I=>?_);refine fu ?_;exact bn.mk (j+1,.own bR) I ar j1 tw (by show 2^l.length-(j+1)<2^l.length-j;omega)
theorem aaM (w:bx) (l:List aj) (fX:l.length≤7) (cX:iY w l) (v:Nat) (av:v<2^63):∀ (k:Nat) (f:aj),f.size≤k→gi w f=true→aR Tryz.prog 130 [c4 l,f.bJ,.int .i64 (v:Int)] (.bool (pk l v f)):=by
 have ny:bu=1099511627776:=rfl;intro k
 induction k with
 | zero=>intro x h;have:=x.size_eq;omega
 | succ k a6=>
  intro f az aw;have iv:=f.size_eq;have gp:=Nb l v f;have y5:=aw;rw [m0,and_eq_true] at aw;obtain ⟨oi,kq⟩:=aw;refine aR.bj ai Tryz.func130 C C fun s I=>?_
  rcases yy oi with ⟨U,ae⟩|⟨aB,ae,U⟩|⟨U,x,ae⟩|⟨U,x,y,ae⟩
  ·rw [U,if_pos C] at gp
   rw [gp,aj.bW];unfold aj.cells;rw [U];refine bB ?_;exact bm I
  ·have rz:=rv y5 aB
   have gp:pk l v f=match l.findIdx? (fun x=>fy x f) with
    | some i=>v.testBit i
    | none=>false:=by
    rw [gp,if_neg ag,if_neg ag,if_neg ag,if_neg ag];cases l.findIdx? (fun x=>fy x f)<;>rfl
   have kR:=fun x (ab:x∈l)=>O1 x f (sD (cX x ab).1 (cX x ab).2) ae (by have:=rv (cX x ab).1 (cX x ab).2;omega) ag
   have k9:=fun i (aQ:i<64)=>IW v i av aQ
   rw [gp];unfold c4 at *;rw [aj.bW] at kR ⊢;unfold aj.cells at kR ⊢;have kR:=fun x ab=>kR x ab
   rcases U with h|h|h
   all_goals
    rw [h] at kR ⊢;refine bB ?_;refine ad.b0 [0,2,4] C I (σ:=Nat) (fun j=>[(7,.int .i64 (j:Int))]) (fun _=>[]) (fun j=>j≤l.length∧∀ i x,i<j→l[i]? = some x→fy x f=false) (fun j=>l.length-j) 0 ⟨zero_le _,fun i x aQ=>absurd aQ (Nat.not_lt_zero _)⟩ (ck C) aY ?_;rintro j ⟨aK,ak⟩ I
    try simp only at aK ak I ⊢
    refine b2 ?_;refine ad.cond C (fun ar=>?_) (fun aV=>?_);rotate_left
    ·have aV:j=l.length:=by simp at aV;omega
     have ab:l.findIdx? (fun x=>fy x f)=none:=by
      rw [List.findIdx?_eq_none_iff];intro z bO;obtain ⟨i,aQ⟩:=List.getElem?_of_mem bO;have U:=qM aQ;exact ak i z ag aQ
     rw [ab];refine dB ?_;exact bm I
    have ar:j<l.length:=by simpa using ar
    obtain ⟨x,ab,bL⟩:=bV (f:=aj.bJ) ar;have kR:=kR x (mem_of_getElem? ab);have k9:=k9 j ag;rw [aj.bW] at bL kR;unfold aj.cells at bL kR;cases aA:fy x f with
    | true=>
     rw [aA] at kR;have vo:l.findIdx? (fun x=>fy x f)=some j:=by
      rw [List.findIdx?_eq_some_iff_getElem];refine ⟨ar,by rw [(List.getElem?_eq_some_iff.1 ab).2];exact aA,fun i aQ=>?_⟩;have:=ak i l[i] aQ (getElem?_eq_getElem ag);simpa using this
     rw [vo];refine n4 ?_;exact bm I
    | false=>
     rw [aA] at kR;refine bZ ?_
     exact bn.mk (j+1) I ⟨ar,fun i z aQ bO=>by
      rcases Nat.lt_succ_iff_lt_or_eq.1 aQ with aQ|rfl
      ·exact ak i z aQ bO
      ·rw [ab] at bO;cases bO;exact aA⟩ b' aY l3
  ·have cb:([x].map aj.bJ)[0]? = some (.agg x.cells):=by rw [← aj.bW];rfl
   have ab:=aj.hx (l:=f.kids) (x:=x) jk;have i1:=a6 x ag (jy kq jk);rw [U,if_neg ag,if_pos C,ae,xl l v 0 [x] x C] at gp;rw [gp];unfold c4 at *;rw [aj.bW] at i1 ⊢;unfold aj.cells at cb i1 ⊢;rw [U,ae];refine bZ ?_;exact bm I
  ·have cb:([x,y].map aj.bJ)[0]? = some (.agg x.cells):=by rw [← aj.bW];rfl
   have b1:([x,y].map aj.bJ)[1]? = some (.agg y.cells):=by rw [← aj.bW];rfl
   have ab:=aj.hx (l:=f.kids) (x:=x) jk;have ay:=aj.hx (l:=f.kids) (x:=y) o4;have i1:=a6 x ag (jy kq jk);have i2:=a6 y ag (jy kq o4);rw [ae,xl l v 0 [x,y] x C,xl l v 1 [x,y] y C] at gp;unfold c4 at *;rw [aj.bW] at i1 i2 ⊢;unfold aj.cells at cb b1 i1 i2 ⊢;rw [ae];rcases U with U|U
   all_goals
    rw [U] at gp ⊢;cases q0:pk l v x with
    | true=>
     rw [q0] at i1 gp;simp only [Bool.true_and,Bool.true_or] at gp;simp at gp;rw [gp];refine bZ ?_;exact bm I
    | false=>
     rw [q0] at i1 gp;simp at gp;rw [gp];refine bZ ?_;exact bm I
theorem aaN (p:bP) (aE:fN p) (dg:fG p=true) (n:Int) (fX:(dc p n).length≤7) (v:Nat) (av:v<2^63):aR Tryz.prog 83 [cJ p,.int .i64 n,.int .i64 (v:Int)] (bg (dM p n (dc p n) v)):=by
 have aq:=bC;obtain ⟨tS,Ob⟩:=vj dg;have U:=BU p aE dg n;have cX:=(D8 dg n).1;have ae:=fun f h=>aaM (b6 p) (dc p n) fX cX v av f.size f (Nat.le_refl _) h
 generalize dc p n=l at *;refine aR.bj ai Tryz.func83 C C fun s I=>?_
 unfold cJ cL bg c4 at *;refine bZ ?_;refine ad.h2 I 3 1 0 fun I=>?_
 refine ad.b0 [1,2,3,7] C I (σ:=Nat×List Int×bM) (fun q=>[(9,.int .i64 (q.1:Int)),(8,.aC 1 (q.2.1.map bb) q.2.2)]) (fun q=>[(q.2.2,.row 3 1 q.2.1.length)]) (fun q=>q.1≤p.methods.length∧q.2.1.length≤q.1∧dM p n l v=q.2.1++rf n l v q.1 (p.methods.drop q.1)) (fun q=>p.methods.length-q.1) (0,[],.nil)
  ⟨zero_le _,Nat.le_refl _,rfl⟩ ⟨⟨_,rfl,aM⟩,⟨_,rfl,aS.nil gW⟩,trivial⟩ (aH.du _) ?_
 rintro ⟨j,out,gm⟩ ⟨aK,gh,ak⟩ I;simp only at aK gh ak I ⊢;refine b2 ?_;refine ad.cond C (fun ar=>?_) (fun aV=>?_);rotate_left
 ·have aV:j=p.methods.length:=by simp at aV;omega
  rw [ef ag,rf,append_nil] at ak;rw [ak];refine dB ?_;exact Fin.cp I C aS.bc
 have ar:j<p.methods.length:=by simpa using ar
 obtain ⟨m,ab,bL⟩:=bV (f:=lB) ar;have gb:=mem_of_getElem? ab;rw [drop_cons ab,rf] at ak;unfold lB nE at bL;by_cases aw:m.gen=n
 ·have cP:=ae m.fact (rW _ _ _ _ (By dg gb))
  rw [aj.bW] at cP;unfold aj.cells at cP;rw [aw] at bL ak;rw [show decide (n=n)=true by simp,Bool.true_and] at ak;refine dC ?_;refine aa.ds 28 C ba ?_;cases mP:pk l v m.fact with
  | true=>
   rw [mP] at cP;rw [mP,if_pos C] at ak;refine c3 ?_;refine aa.gf ai I C C C C C C C et C C C C C C C C a1 hc j2 ag (fun bR I=>?_);refine fu ?_;exact bn.mk (j+1,out++[(j:Int)],.own bR) I ⟨ar,by simp;omega,by rw [ak];simp⟩ x8 (by show aH _ [(_,.row _ _ (out++[(j:Int)]).length)] _;rw [length_append];exact aH.du _) oz
  | false=>
   rw [mP] at cP;rw [mP,if_neg ba] at ak;refine bZ ?_;exact bn.mk (j+1,out,gm) I ⟨ar,by show out.length≤j+1;omega,ak⟩ b' (aH.du _) oz
 ·rw [show decide (m.gen=n)=false by simpa using aw,Bool.false_and,if_neg ba] at ak
  refine dC ?_;refine aa.c2 28 C (by simpa using aw) ?_;refine bB ?_;exact bn.mk (j+1,out,gm) I ⟨ar,by show out.length≤j+1;omega,ak⟩ b' (aH.du _) oz
theorem aaO (p:bP) (aE:fN p) (n:Int):aR Tryz.prog 64 [cJ p,.int .i64 n] (IB p n):=by
 have aq:=bC;refine aR.bj ai Tryz.func64 C C fun s I=>?_
 have U:=MN p aE;have ae:=PE p n;have an:=fun h=>BU p aE h n
 have he:hp p n=if fG p&&mG p n then (if (dc p n).length≤7 then 0 else 3) else 2:=rfl
 unfold IB;cases dg:fG p with
 | false=>
  rw [dg] at U;rw [dg,Bool.false_and,if_neg ba] at he;rw [he,if_neg dW];unfold cJ cL at *;refine bZ ?_;exact bm I
 | true=>
 rw [dg] at U;rw [dg,Bool.true_and] at he;cases ED:mG p n with
 | false=>
  rw [ED] at ae;rw [ED,if_neg ba] at he;rw [he,if_neg dW];unfold cJ cL at *;refine bZ ?_;exact bm I
 | true=>
 rw [ED] at ae;rw [ED,if_pos C] at he;have an:=an dg;unfold cJ cL c4 at *;refine bZ ?_;refine ad.cond C (fun h=>?_) (fun h=>?_)
 ·rw [if_neg (by simp at h;omega)] at he
  rw [he,if_neg dW];refine gH ?_;exact bm I
 ·rw [if_pos (by simp at h;omega)] at he
  rw [he,if_pos C];refine bB ?_;exact bm I
theorem Iv (f:aj):fy f f=true:=by unfold fy;simp
theorem PF (g:List b7) (aw:hI g=true) (v:Nat) (av:v<2^63):aR Tryz.prog 77 [fM g,.int .i64 (v:Int)] (.cu [.int .i64 (leads g v).1,.int .i64 ((leads g v).2:Int)]):=by
 have aq:=bC;refine aR.bj ai Tryz.func77 C C fun s I=>?_
 obtain ⟨lN,eW⟩:=wO aw;have k9:=fun i (aQ:i<64)=>IW v i av aQ
 unfold fM;refine gg ?_;refine ad.b0 [0,1] C I (σ:=Nat×Nat×Nat) (fun q=>[(6,.int .i64 (q.1:Int)),(7,.int .i64 (q.2.1:Int))]) (fun _=>[]) (fun q=>q.1<g.length∧leads g v=vb g v q.2.2 (q.1:Int) q.2.1∧g.length≤q.1+q.2.2∧q.2.1≤q.1) (fun q=>g.length-q.1) (0,0,g.length) ⟨lN,rfl,by simp,Nat.le_refl _⟩ (ck C) aY ?_;rintro ⟨j,n,f⟩ ⟨aK,ak,aZ,az⟩ I
 try simp only at aK ak aZ az I ⊢
 obtain ⟨x,ab,bL⟩:=bV (f:=eP) aK;have aW:=uS aw ab;obtain ⟨f,rfl⟩:∃ k,f=k+1:=⟨f-1,by omega⟩;rw [vb,toNat_natCast,show g.getD j default=x by rw [getD_eq_getElem?_getD,ab];rfl] at ak;unfold eP gY bg at bL;refine dC ?_;refine ad.cond C (fun a8=>?_) (fun a8=>?_);rotate_left
 ·rw [if_neg w3] at ak
  rw [ak];refine dB ?_;exact bm I
 have a8:x.atom≥0:=by simpa using a8
 rw [if_pos a8] at ak;have en:=(kn ag).1 aW;obtain ⟨a,Be⟩:∃ a:Nat,x.atom=a:=⟨x.atom.toNat,by omega⟩;rw [Be,toNat_natCast] at ak;rw [Be] at bL;have k9:=k9 a ag;cases aA:v.testBit a with
 | true=>
  rw [aA] at k9;rw [aA,if_pos C] at ak;obtain ⟨y,ay⟩:∃ y:Nat,x.yes=y:=⟨x.yes.toNat,by omega⟩;rw [ay] at ak bL;refine bZ ?_;exact bn.mk (y,n+1,f) I ⟨by show y<g.length;omega,by rw [ak],by show g.length≤y+f;omega,by show n+1≤y;omega⟩ b' aY Dx
 | false=>
  rw [aA] at k9;rw [aA,if_neg ba] at ak;obtain ⟨y,ay⟩:∃ y:Nat,x.no=y:=⟨x.no.toNat,by omega⟩;rw [ay] at ak bL;refine bZ ?_;exact bn.mk (y,n+1,f) I ⟨by show y<g.length;omega,by rw [ak],by show g.length≤y+f;omega,by show n+1≤y;omega⟩ b' aY Dx
theorem aaP (p:bP) (aE:fN p) (n:Int) (he:hp p n=0) (g:List b7) (aw:hI g=true):aR Tryz.prog 76 [cJ p,.int .i64 n,fM g] (.bool (so p n g)):=by
 have aq:=bC;refine aR.bj ai Tryz.func76 C C fun s I=>?_
 obtain ⟨dg,fX,cX,eY,gF⟩:=xz he;obtain ⟨tS,-⟩:=vj dg;obtain ⟨jO,kq⟩:=wO aw;have vk:2^(dc p n).length≤2^7:=pow_le_pow_right ag fX;have ft:=IA (b6 p) (dc p n);have aaQ:∀ v∈ka (b6 p) (dc p n),v<2^63:=fun v av=>by
  have:=mem_range.1 (mem_filter.1 av).1;omega
 have U:=BU p aE dg n;have ae:=aaL p aE dg n fX;have an:=fun v av=>PF g aw v av
 have bd:=fun v av=>aaN p aE dg n fX v av
 have bD:=fun v=>DL aw v
 have ed:so p n g=(g.all (fun x=>decide (x.atom<((dc p n).length:Int)))&&(ka (b6 p) (dc p n)).all fun v=>(g.getD (leads g v).1.toNat default).ms==dM p n (dc p n) v):=rfl;have aaR:=fun v=>BC n (dc p n) v p.methods 0
 rw [ed];generalize ka (b6 p) (dc p n)=vs at *;generalize dc p n=l at *;unfold cJ cL fM c4 iZ bg at *;refine bZ ?_;refine ad.b0 [1,2,3,7] C I (σ:=Nat) (fun j=>[(8,.int .i64 (j:Int))]) (fun _=>[]) (fun j=>j≤g.length∧(g.all fun x=>decide (x.atom<(l.length:Int)))=(g.drop j).all fun x=>decide (x.atom<(l.length:Int))) (fun j=>g.length-j) 0 ⟨zero_le _,rfl⟩ (ck C) aY ?_;rintro j ⟨aK,ak⟩ I
 try simp only at aK ak I ⊢
 refine b2 ?_;refine ad.cond C (fun ar=>?_) (fun aV=>?_)
 ·have ar:j<g.length:=by simpa using ar
  obtain ⟨x,ab,bL⟩:=bV (f:=eP) ar;rw [drop_cons ab,all_cons] at ak;unfold eP gY bg at bL;refine dC ?_;refine ad.cond C (fun h=>?_) (fun h=>?_)
  ·rw [show decide (x.atom<(l.length:Int))=false by simp at h ⊢;omega,Bool.false_and] at ak
   rw [ak,Bool.false_and];refine jg ?_;exact bm I
  ·rw [show decide (x.atom<(l.length:Int))=true by simp at h ⊢;omega,Bool.true_and] at ak
   refine fR ?_;exact bn.mk (j+1) I ⟨ar,ak⟩ b' aY tg
 have aV:j=g.length:=by simp at aV;omega
 rw [ef ag,all_nil] at ak;rw [ak,Bool.true_and];refine bZ ?_;refine ad.b0 [1,2,3,9] C I (σ:=Nat) (fun j=>[(10,.int .i64 (j:Int))]) (fun _=>[]) (fun j=>j≤vs.length∧(vs.all fun v=>(g.getD (leads g v).1.toNat default).ms==dM p n l v)=(vs.drop j).all fun v=>(g.getD (leads g v).1.toNat default).ms==dM p n l v) (fun j=>vs.length-j) 0 ⟨zero_le _,rfl⟩ (ck C) aY ?_;rintro j ⟨aK,cD⟩ I
 try simp only at aK cD I ⊢
 refine b2 ?_;refine ad.cond C (fun ar=>?_) (fun dm=>?_);rotate_left
 ·have dm:j=vs.length:=by simp at dm;omega
  rw [ef ag,all_nil] at cD;rw [cD];refine dB ?_;exact bm I
 have ar:j<vs.length:=by simpa using ar
 obtain ⟨v,av,kz⟩:=bV (f:=fun v:Nat=>af.int .i64 (v:Int)) ar;have PG:=aaQ v (mem_of_getElem? av);have an:=an v PG;have bd:=bd v PG;obtain ⟨k,x,aD,ab,ab3⟩:=bD v;have bL:(g.map eP)[k]? = some (eP x):=by rw [List.getElem?_map,ab];rfl
 have im:=OP aw x (mem_of_getElem? ab);have hy:(dM p n l v).length≤16:=Nat.le_trans (aaR v) tS;have fk:=tt x.ms (dM p n l v) ag ag;have kj:(g.getD (leads g v).1.toNat default).ms=x.ms:=by rw [aD,toNat_natCast,getD_eq_getElem?_getD,ab];rfl
 rw [drop_cons av,all_cons,kj] at cD;rw [aD] at an;unfold eP gY bg at bL;unfold bg at fk;cases aA:x.ms==dM p n l v with
 | true=>
  rw [aA] at fk cD;refine bZ ?_;exact bn.mk (j+1) I ⟨ar,cD⟩ b' aY xo
 | false=>
  rw [aA] at fk cD;rw [cD];refine bZ ?_;exact bm I
end Go.Proofs.YtnafpeohfbglmaaGreat
namespace Go.dv
open Go.Proofs.YtnafpeohfbglmaaGreat
mutual
theorem PH:∀ (g f:aj),f∈iy g→iW f≤iW g
  | .mk o a p c n ks,f,h=>by
    rw [iy] at h;split at h
    · rw [mem_singleton] at h;subst h;exact Int.le_refl _
    · have:=PI ks f (if (aj.mk o a p c n ks).cU then a+1 else 0) h
      rw [iW];exact this
theorem PI:∀ (l:List aj) (f:aj) (m:Int),f∈j' l→iW f≤ia m l
  | x::r,f,m,h=>by
    rw [j'] at h;rw [ia];rcases mem_append.1 h with h|h
    · have U:=PH x f h
      have ae:=(uJ r (max m (iW x))).1;omega
    · exact PI r f _ h
end
theorem PJ {f:aj}:∀ (c0 l:List aj),f∈c0.foldl hA l→f∈l∨f∈c0
  | [],l,h => .inl h
  | x::r,l,h=>by
    rcases PJ r _ h with h|h
    · rcases N' h with h|h
      · exact .inl h
      · subst h;exact .inr mem_cons_self
    · exact .inr (mem_cons_of_mem _ h)
theorem PK {n:Int} {f:aj}:∀ (ms:List hJ) (l:List aj),f∈ms.foldl (ih n) l→f∈l∨∃ m∈ms,m.gen=n∧f∈iy m.fact
  | [],l,h => .inl h
  | m::r,l,h=>by
    rcases PK r _ h with h|⟨iQ,U,ae⟩
    · unfold ih at h
      split at h
      · rename_i aw
        rcases PJ _ _ h with h|h
        · exact .inl h
        · exact .inr ⟨m,mem_cons_self,aw,h⟩
      · exact .inl h
    · exact .inr ⟨iQ,mem_cons_of_mem _ U,ae⟩
theorem aaS {w:bx} {f:aj} (h:gi w f=true) (aD:f.kids=[]):h' w f=true:=by
 obtain ⟨o,a,p,c,n,ks⟩:=f;have aD:ks=[]:=aD;subst aD;rw [gi,and_eq_true] at h;unfold h';rw [e1,if_neg ba,if_pos h.1,gX]
theorem aaT {p:bP} (h:fG p=true):∀ n∈p.dw,1≤n∧n≤3:=fun n az=>by
 obtain ⟨-,aB,-⟩:=D7 h;unfold p5 at aB;simp only [and_eq_true,decide_eq_true_eq,all_eq_true] at aB;have:=aB.2.2.2.2 n az;omega
theorem aaU {p:bP} (h:fG p=true) {m:hJ} (hm:m∈p.methods):iW m.fact≤p.dw.getD m.gen.toNat 0:=by
 obtain ⟨-,-,o,ah⟩:=D7 h;have:=Io ah m hm;unfold r5 at this;simp only [and_eq_true,decide_eq_true_eq] at this;exact this.2.2.2.2.2
end Go.dv
namespace Go.Proofs.YtnafpeohfbglmaaGreat
open Go.cW Go.dv
theorem aaV (p:bP) (aU:List dD) (n:Int) (args:List (Int×Int)):oG p aU n args=(fG p&&(ts (b6 p) aU&&(mG p n&&(decide ((args.length:Int)=p.dw.getD n.toNat 0)&&args.all (fx aU.length))))):=by
 unfold oG tO nC;cases aE:fG p with
 | false=>rfl
 | true=>
  rw [Bool.true_and,Bool.true_and,Bool.eq_iff_iff];simp only [and_eq_true,decide_eq_true_eq];constructor
  ·rintro ⟨U,ae,an,bd,bD,fk⟩
   exact ⟨an,U,ae,fk⟩
  ·rintro ⟨an,U,ae,fk⟩
   refine ⟨U,ae,an,?_,?_,fk⟩
   all_goals
    unfold mG at U;simp only [and_eq_true,decide_eq_true_eq] at U;have aB:n.toNat<p.dw.length:=by omega
    rw [getD_eq_getElem?_getD,getElem?_eq_getElem aB,getD_some] at ae;have:=aaT aE _ (List.getElem_mem aB);omega
structure zg (p:bP) (aU:List dD) (n:Int) (args:List (Int×Int)):Prop where
 prog:fG p=true
 obj:qY (b6 p) aU
 iV:args.length≤3
 mm:∀ v∈args,fx aU.length v=true
 aaW:(args.length:Int)=p.dw.getD n.toNat 0
 hand:nC (b6 p) aU args=true
theorem zg.of {p:bP} {aU:List dD} {n:Int} {args:List (Int×Int)} (h:oG p aU n args=true):zg p aU n args:=by
 unfold oG tO at h;simp only [and_eq_true,decide_eq_true_eq] at h;obtain ⟨U,ae,an,bd⟩:=h;have:=Mg bd;exact ⟨U,this.1,this.2.1,this.2.2,an,bd⟩
theorem PL {p:bP} {aU:List dD} {n:Int} {args:List (Int×Int)} (aA:zg p aU n args) {f:aj} (aZ:f∈dc p n):iW f≤args.length:=by
 rcases PK _ _ aZ with h|⟨m,hm,aw,ry⟩
 ·cases h
 ·have U:=PH _ _ ry
  have ae:=aaU aA.prog hm;rw [aw,← aA.aaW] at ae;omega
theorem aaX {p:bP} {aU:List dD} {n:Int} {args:List (Int×Int)} (aA:zg p aU n args) {f:aj} (aZ:f∈dc p n):nN (b6 p) aU args f=oa (b6 p) aU args f:=by
 have cX:=(D8 aA.prog n).1 f aZ;have au:=PL aA aZ;unfold nN m7;rw [aaS cX.1 (sD cX.1 cX.2),aA.hand,if_pos (by simpa using au)];simp
theorem aaY (p:bP) (aE:fN p) (n:Int) (aU:List dD) (args:List (Int×Int)) (aB:aU.length<bu) (ah:∀ o∈aU,o.bl.length<bu) (k3:args.length<bu):aR Tryz.prog 54 [cJ p,gj aU,.int .i64 n,jC args] (.bool (oG p aU n args)):=by
 have aq:=bC;refine aR.bj ai Tryz.func54 C C fun s I=>?_
 have U:=MN p aE;have ae:=PE p n;have an:=fun h=>AS p aE h
 have bd:=fun hw=>Vf (b6 p) hw aU aB ah
 have bD:=L4 args aU.length k3;have df:((aU.map ho).length:Int)=aU.length:=by rw [length_map]
 rw [aaV];cases dg:fG p with
 | false=>
  rw [dg] at U;rw [Bool.false_and];unfold cJ cL at *;refine bZ ?_;exact bm I
 | true=>
 rw [dg] at U;rw [Bool.true_and];have lG:=vi dg;have an:=an II;have bd:=bd lG;unfold cJ cL eF eO cV bg at *;cases g1:ts (b6 p) aU with
 | false=>
  rw [g1] at bd;rw [Bool.false_and];refine bZ ?_;exact bm I
 | true=>
 rw [g1] at bd;rw [Bool.true_and];cases g2:mG p n with
 | false=>
  rw [g2] at ae;rw [Bool.false_and];refine bZ ?_;exact bm I
 | true=>
 rw [g2] at ae;rw [Bool.true_and];unfold mG at g2;simp only [and_eq_true,decide_eq_true_eq] at g2;obtain ⟨c,rfl⟩:∃ c:Nat,n=c:=⟨n.toNat,by omega⟩;obtain ⟨a,ru,OM⟩:=bV (f:=bb) (l:=p.dw) (show c<p.dw.length by omega);rw [toNat_natCast,show p.dw.getD c 0=a by rw [getD_eq_getElem?_getD,ru];rfl];unfold bb at OM;refine bZ ?_;by_cases g3:(args.length:Int)=a;rotate_left
 ·rw [decide_eq_false g3,Bool.false_and]
  refine aa.c2 32 C (by simpa using g3) ?_;refine ew ?_;exact bm I
 rw [decide_eq_true g3,Bool.true_and];refine aa.ds 32 C (by simpa using g3) ?_;rw [← df] at bD ⊢;refine c3 ?_;exact bm I
theorem aaZ {v i:Nat} (h:v<2^i):v|||2^i=v+2^i:=by
 have U:=Nat.two_pow_add_eq_or_of_lt h 1;rw [mul_one] at U;rw [Nat.or_comm,← U,Nat.add_comm]
theorem aa0 (p:bP) (aE:fN p) (n:Int) (he:hp p n=0) (aU:List dD) (args:List (Int×Int)) (aA:zg p aU n args):aR Tryz.prog 78 [cJ p,gj aU,.int .i64 n,jC args] (.int .i64 (oI p aU n args:Int)):=by
 have aq:=bC;obtain ⟨dg,fX,cX,eY,gF⟩:=xz he;have lG:=vi dg;have U:=BU p aE dg n;have ae:=AS p aE II
 have an:=fun f (aZ:f∈dc p n)=>Vk (b6 p) lG aU aA.obj args aA.mm aA.iV f.size f (Nat.le_refl _) (by
  have U:=f.size_eq
  have ae:=rv (cX f aZ).1 (cX f aZ).2
  have an:=sD (cX f aZ).1 (cX f aZ).2
  rw [an,aj.hv] at U;omega) (cX f aZ).1 (PL aA aZ)
 have kF:=fun f aZ=>aaX aA (f:=f) aZ
 have vn:oI p aU n args=oH (nN (b6 p) aU args) 0 (dc p n) 0:=rfl;rw [vn];generalize dc p n=l at *;refine aR.bj ai Tryz.func78 C C fun s I=>?_
 unfold cJ cL eF eO cV bg c4 at *;refine bZ ?_;refine ad.b0 [1,3,4,9] C I (σ:=Nat×Nat) (fun q=>[(11,.int .i64 (q.1:Int)),(10,.int .i64 (q.2:Int))]) (fun _=>[]) (fun q=>q.1≤l.length∧q.2<2^q.1∧oH (nN (b6 p) aU args) 0 l 0=oH (nN (b6 p) aU args) q.1 (l.drop q.1) q.2) (fun q=>l.length-q.1) (0,0) ⟨zero_le _,by simp,rfl⟩ (ck C) aY ?_;rintro ⟨j,v⟩ ⟨aK,av,ak⟩ I
 try simp only at aK av ak I ⊢
 have ZD:2^j≤2^7:=pow_le_pow_right ag ag;refine b2 ?_;refine ad.cond C (fun ar=>?_) (fun aV=>?_);rotate_left
 ·have aV:j=l.length:=by simp at aV;omega
  rw [ef ag,oH] at ak;rw [ak];refine dB ?_;exact bm I
 have ar:j<l.length:=by simpa using ar
 obtain ⟨f,ab,bL⟩:=bV (f:=aj.bJ) ar;have ry:=mem_of_getElem? ab;have an:=an f ry;rw [drop_cons ab,oH,kF f ry] at ak;rw [aj.bW] at bL an;unfold aj.cells at bL an;cases cP:oa (b6 p) aU args f with
 | false=>
  rw [cP,if_neg ba] at ak;rw [cP] at an;refine bZ ?_;exact bn.mk (j+1,v) I ⟨ar,by show v<2^(j+1);rw [Nat.pow_succ];omega,ak⟩ b' aY l3
 | true=>
  rw [cP,if_pos C] at ak;rw [cP] at an;refine n4 ?_;refine aa.shl ((2^j:Nat):Int) C C C C C C ag (OQ ag) ?_;refine fu ?_;exact bn.mk (j+1,v|||2^j) I ⟨ar,Nat.or_lt_two_pow (by rw [Nat.pow_succ];omega) (Nat.pow_lt_pow_right ag ag),ak⟩ (by repeat (first|exact trivial|refine ⟨⟨_,rfl,aM⟩,?_⟩|refine ⟨⟨_,rfl,aS.of_eq (by (first|rw [jv ag]|(rw [aaZ av,eo ag ag];congr 1)))⟩,?_⟩)) aY l3
theorem aa1 (p:bP) (aE:fN p) (n:Int) (aU:List dD) (args:List (Int×Int)) (aB:aU.length<bu) (ah:∀ o∈aU,o.bl.length<bu) (k3:args.length<bu) (g:List b7) (aw:g.length<bu) (im:∀ x∈g,x.ms.length<bu):aR Tryz.prog 23 [cJ p,gj aU,.int .i64 n,jC args,fM g] (y7 p aU n args g):=by
 have aq:=bC;refine aR.bj ai Tryz.func23 C C fun s I=>?_
 have U:=aaY p aE n aU args aB ah k3;have ae:=TY g aw im;have an:=aaO p aE n;have bd:=fun he ir=>aaP p aE n he g ir
 have bD:=fun he aA=>aa0 p aE n he aU args aA
 have fk:=fun ir v av=>PF g ir v av
 have dH:mI p aU n args g=if !(oG p aU n args) || !hI g then 2 else if hp p n=0 then (if so p n g then 0 else 7) else hp p n:=rfl
 unfold y7;unfold IB at an;generalize je:(if hp p n=0 then c4 (dc p n) else .aC 0 [] .nil)=acX at an;cases hz:oG p aU n args with
 | false=>
  rw [hz] at dH U;have dH:mI p aU n args g=2:=dH;rw [dH,if_neg ba,if_neg ba];unfold cJ cL fM at *;refine bZ ?_;exact bm I
 | true=>
 have yC:=zg.of hz;rw [hz] at U;cases ir:hI g with
 | false=>
  rw [hz,ir] at dH;have dH:mI p aU n args g=2:=dH;rw [ir] at ae;rw [dH,if_neg ba,if_neg ba];unfold cJ cL fM at *;refine bZ ?_;exact bm I
 | true=>
 rw [hz,ir] at dH;have dH:mI p aU n args g=if hp p n=0 then (if so p n g then 0 else 7) else hp p n:=dH
 rw [ir] at ae;by_cases he:hp p n=0;rotate_left
 ·rw [if_neg he] at dH
  rw [dH,if_neg he,if_neg he];unfold cJ cL fM at *;refine bZ ?_;refine ad.cond C (fun _=>?_) (fun h=>absurd fZ he);refine gH ?_;exact bm I
 rw [if_pos he] at dH;rw [he] at an;have bd:=bd he ir;have bD:=bD he yC;obtain ⟨dg,fX,cX,eY,gF⟩:=xz he;have vn:oI p aU n args=oH (nN (b6 p) aU args) 0 (dc p n) 0:=rfl;have ft:=IG (nN (b6 p) aU args) (dc p n) 0 0 ba;rw [Nat.zero_add,← vn] at ft;have vk:2^(dc p n).length≤2^7:=pow_le_pow_right ag fX;generalize oI p aU n args=view at *;have fk:=fk ir view ag;cases tc:so p n g with
 | false=>
  rw [tc] at bd;rw [tc,if_neg ba] at dH;rw [dH,if_neg ba,if_neg ba];unfold cJ cL fM at *;refine bZ ?_;exact bm I
 | true=>
 rw [tc] at bd;rw [tc,if_pos C] at dH;rw [dH,if_pos C,if_pos C];obtain ⟨BL,vp,g1,g2,-⟩:=DL ir view;have oT:(g.map eP)[BL]? = some (eP vp):=by rw [List.getElem?_map,g2];rfl
 rw [g1] at fk ⊢;rw [toNat_natCast,show g.getD BL default=vp by rw [getD_eq_getElem?_getD,g2];rfl];unfold eP gY bg at oT;unfold cJ cL fM bg at *;refine bZ ?_;exact bm I
theorem ab4 (p:bP) (aE:fN p) (n:Int) (aU:List dD) (args:List (Int×Int)) (aB:aU.length<bu) (ah:∀ o∈aU,o.bl.length<bu) (k3:args.length<bu) (g:List b7) (aw:g.length<bu):aR Tryz.prog 5 [cJ p,.agg [gj aU,.int .i64 n,jC args],fM g] (.bool true):=by
 have aq:=bC;refine aR.bj ai Tryz.func5 C C fun s I=>?_
 have df:=Z9 ();have br:=aaa g aw;cases bK:Es g with
 | true=>
  rw [bK] at br;unfold cJ cL fM at *;refine bZ ?_;exact bm I
 | false=>
  rw [bK] at br;unfold Es at bK;rw [or_eq_false_iff,any_eq_false] at bK;have im:∀ x∈g,x.ms.length≤40:=fun x ab=>by
   have:=bK.2 x ab;simp at this;omega
  have U:=OR p aE n aU args aB ah k3 g aw;have ae:=aa1 p aE n aU args aB ah k3 g aw (fun x ab=>by have:=im x ab;omega);have s1:aR Tryz.prog 24 [if mI p aU n args g=0 then bg (g.getD (leads g (oI p aU n args)).1.toNat default).ms else .aC 0 [] .nil,if mI p aU n args g=0 then bg (g.getD (leads g (oI p aU n args)).1.toNat default).ms else .aC 0 [] .nil] (.bool true):=by
   have s2:∀ l:List Int,l.length<bu→aR Tryz.prog 24 [bg l,bg l] (.bool true):=fun l aB=>by
    have:=tt l l aB aB;rwa [show (l==l)=true from beq_iff_eq.2 C] at this
   split
   ·refine s2 _ ?_
    rw [getD_eq_getElem?_getD];cases ab:g[(leads g (oI p aU n args)).1.toNat]? with
    | none=>rw [Option.getD_none];decide
    | some x=>rw [getD_some];have:=im x (mem_of_getElem? ab);omega
   ·exact aR.args (.cons (aS.empty (sz':=1)) (.one aS.empty)) (s2 [] (by simp [aq]))
  unfold y7 at U ae;generalize (if mI p aU n args g=0 then bg (g.getD (leads g (oI p aU n args)).1.toNat default).ms else .aC 0 [] .nil)=acX at *;generalize (if mI p aU n args g=0 then ((leads g (oI p aU n args)).2:Int) else 0)=acN at *;generalize mI p aU n args g=acB at *;unfold cJ cL fM at *;refine bZ ?_;refine aa.ds 50 C ba ?_;refine dS ?_;refine aa.ds 55 C ba ?_;refine c3 ?_;exact bm I
def kt (w:World):bT:=fun b _=>b<w.heap.size
theorem aa2 (w:World):dq w (kt w) (fun _=>none):=⟨(fun _ _ h=>by cases h),fun _ _ h=>h⟩
theorem add_add (a:Addr) (x y:Nat):(a.add x).add y=a.add (x+y):=by
 unfold Addr.add;by_cases ab:x=0
 ·subst ab;simp
 ·by_cases ay:y=0
  ·subst ay;simp [ab]
  ·simp [ab,ay,Nat.add_assoc]
theorem aa3 {w:World} {a:Addr} {v:Value} (h:w.cell? a=some v):a.spot=none∧a.block<w.heap.size:=by
 unfold World.cell? at h;split at h
 ·rename_i c _ _ aq
  refine ⟨?_,(Array.getElem?_eq_some_iff.1 aq).1⟩;cases au:a.spot with
  | none=>rfl
  | some s=>rw [au] at h;simp at h
 ·cases h
theorem PM {w:World} {a:Addr} {n:Nat} {cs:List Value} (h:w.cells? 0 a n=some cs):cs.length=n∧∀ i v,cs[i]? = some v→w.cell? (a.add i)=some v:=by
 unfold World.cells? at h;rw [if_pos (zero_le _)] at h;refine ⟨by simpa using mapM_some_length h,fun i v av=>?_⟩;have aQ:i<n:=by
  have:=mapM_some_length h;rw [length_range] at this;rw [← this];exact (List.getElem?_eq_some_iff.1 av).1
 rw [mapM_some_get h i i (by rw [List.getElem?_range aQ])];exact av
section
variable {H:Type} {enc:TypeId×Value→H} {w:World}
theorem EE {sz:Nat}:∀ {vs:List Value},(∀ v∈vs,v.cells.size=sz)→(flat vs).length=vs.length*sz
  | [],_=>by simp [flat]
  | v::vs,h=>by
    have:=EE (vs:=vs) (fun u hu=>h u (mem_cons_of_mem _ hu));have av:=h v mem_cons_self;simp only [flat,List.flatMap_cons,length_append,length_cons] at this ⊢;rw [this,Array.length_toList,av,Nat.add_mul,Nat.one_mul,Nat.add_comm]
theorem bF.i' {p:bT}:∀ {vs us:List Value} {xs ys:List af},bF w p vs xs→bF w p us ys→bF w p (vs++us) (xs++ys)
 | _,_,_,_,.nil,h=>h
 | _,_,_,_,.cons v x vs xs h t,k => .cons _ _ _ _ h (bF.i' t k)
theorem aa4 (l r:List (DataW H)):Rows.uptoBulkAll (l++r)=Rows.uptoBulkAll l+Rows.uptoBulkAll r:=by
 induction l with
 | nil=>simp [Rows.uptoBulkAll]
 | cons x l a6=>simp only [cons_append,Rows.uptoBulkAll,a6];omega
theorem PN {α:Type} {t e:TypeId} {sz fuel:Nat} {cs:List Value} {x:DataW H×List MemPlace} (f:α→af) (m:α→Nat) (aN : Tryz.prog.underlying t=some (.slice e)) (aA : Tryz.prog.cellsOf e=sz) (ca:0<sz)
  (dP:∀ n cs y,n<fuel→DataW.trod enc Tryz.prog w 0 (fun _=>true) true n e cs=some y→cs.length=sz→∃ (a:α) (v:Value),v.cells.toList=cs∧Rel w (kt w) v (f a)∧m a≤Rows.uptoBulk y.1)
  (h:DataW.trod enc Tryz.prog w 0 (fun _=>true) true fuel t cs=some x) :
  ∃ (c:Value) (l:List α),cs=[c]∧Rel w (kt w) c (.aC sz (l.map f) .bc)∧(l.map m).sum+1≤Rows.uptoBulk x.1:=by
 rcases DataW.trod_slice aN h with ⟨rfl,rfl⟩|⟨a,len,cap,elems,rest,n,rfl,rfl,rfl,aq,aB,hm,hlen,PO,dn,Hd⟩
 ·exact ⟨_,[],rfl,.hY _ _ ba,by simp [Rows.uptoBulk]⟩
 ·rw [aA] at PO dn
  have key:∀ k,k≤len→∃ (l:List α) (vs:List Value),l.length=k∧bF w (kt w) vs (l.map f)∧(∀ v∈vs,v.cells.size=sz)∧(∀ i u,(flat vs)[i]? = some u→w.cell? (a.add i)=some u) ∧
    (l.map m).sum≤Rows.uptoBulkAll ((elems.take k).map (·.1)):=by
   intro k
   induction k with
   | zero=>intro _;exact ⟨[],[],rfl,.nil,by simp,by simp [flat],by simp⟩
   | succ k a6=>
    intro aD;obtain ⟨l,vs,U,ae,an,bd,bD⟩:=a6 ag;have EF:elems[k]? = some (elems[k]' ag):=getElem?_eq_getElem ag;have aq:=PO k ag;rw [EF,Option.bind_eq_some_iff] at aq;obtain ⟨cs',hD,ay⟩:=aq;obtain ⟨g1,g2⟩:=PM hD;obtain ⟨da,v,cb,b1,eV⟩:=dP n cs' _ (lt_succ_self n) ay g1;have eL:vs.length=k:=by rw [ae.length,length_map,U]
    refine ⟨l++[da],vs++[v],by simp [U],?_,?_,?_,?_⟩
    ·rw [map_append];exact bF.i' ae (.cons _ _ _ _ b1 .nil)
    ·intro u hu
     rcases mem_append.1 hu with hu|hu
     ·exact an u hu
     ·simp only [mem_singleton] at hu
      subst hu;rw [← Array.length_toList,cb,g1]
    ·intro i u hu
     have aZ:flat (vs++[v])=flat vs++cs':=by simp [flat,cb]
     rw [aZ] at hu;by_cases aQ:i<(flat vs).length
     ·rw [List.getElem?_append_left aQ] at hu;exact bd i u hu
     ·rw [List.getElem?_append_right ag,EE an,eL] at hu
      have:=g2 _ _ hu;rw [add_add] at this;rw [EE an,eL] at aQ;rwa [show k*sz+(i-k*sz)=i by omega] at this
    ·rw [take_add_one,EF]
     simp only [Option.toList_some,map_append,map_cons,map_nil,aa4,List.sum_append,sum_cons,List.sum_nil,Rows.uptoBulkAll];omega
  obtain ⟨l,vs,U,ae,an,bd,bD⟩:=key len (Nat.le_refl _);have eL:vs.length=len:=by rw [ae.length,length_map,U]
  refine ⟨_,l,rfl,?_,?_⟩
  ·have nv:maxLen=9223372036854775807:=rfl
   by_cases kC:cap=0
   ·have uq:len=0:=by omega
    subst uq;subst kC;have:l=[]:=List.eq_nil_of_length_eq_zero U;subst this;exact .iA a _ _ (.inl C)
   ·have jH:∃ v,w.cell? a=some v:=by
     by_cases uq:len=0
     ·obtain ⟨aF,jr⟩:=dn rfl
      have EF:rest[0]? = some (rest[0]' ag):=getElem?_eq_getElem ag;have:=jr 0 ag;rw [EF,Option.bind_eq_some_iff] at this;obtain ⟨cs',hD,-⟩:=this;obtain ⟨g1,g2⟩:=PM hD;have:=g2 0 _ (getElem?_eq_getElem ag);rw [uq,add_add] at this;simp only [Nat.add_zero,Nat.zero_mul,Addr.add,if_true] at this;exact ⟨_,this⟩
     ·have:=bd 0 _ (getElem?_eq_getElem (by rw [EE an,eL];exact Nat.mul_pos ag ca))
      simp only [Addr.add,if_true] at this;exact ⟨_,this⟩
    obtain ⟨v,av⟩:=jH;obtain ⟨au,ar⟩:=aa3 av;obtain ⟨g,off,spot⟩:=a;simp only at au ar;subst au;refine .aC g off len cap sz vs _ .bc ba (by rw [length_map,U]) (fun i u hu=>⟨ar,?_⟩) ae an ag aB ba ba;have:=bd i u hu;rwa [lo] at this
  ·simp only [Rows.uptoBulk]
   rw [List.take_of_length_le ag] at bD;omega
theorem trod_int {t:TypeId} {fuel:Nat} {cs:List Value} {y:DataW H×List MemPlace} (aN : Tryz.prog.underlying t=some (.int .i64)) (h:DataW.trod enc Tryz.prog w 0 (fun _=>true) true fuel t cs=some y) :
  ∃ n:Int,bF w (kt w) cs [.int .i64 n]∧1≤Rows.uptoBulk y.1:=by
 obtain ⟨n,rfl,rfl,-⟩:=DataW.trod_int aN h;exact ⟨n,.cons _ _ _ _ (.int _ _) .nil,by simp [Rows.uptoBulk]⟩
theorem tX {α:Type} {t e:TypeId} {sz fuel:Nat} {cs:List Value} {x:DataW H×List MemPlace} (f:α→List af) (m:α→Nat) (aN : Tryz.prog.underlying t=some (.slice e)) (aA : Tryz.prog.cellsOf e=sz) (ca:0<sz)
  (dP:∀ n cs y,n<fuel→DataW.trod enc Tryz.prog w 0 (fun _=>true) true n e cs=some y→∃ a:α,bF w (kt w) cs (f a)∧m a≤Rows.uptoBulk y.1)
  (h:DataW.trod enc Tryz.prog w 0 (fun _=>true) true fuel t cs=some x) :
  ∃ l:List α,bF w (kt w) cs [.aC sz (l.map fun a => .agg (f a)) .bc]∧(l.map m).sum+1≤Rows.uptoBulk x.1:=by
 obtain ⟨c,l,rfl,U,ae⟩:=PN (fun a=>af.agg (f a)) m aN aA ca (fun n cs y az ay _=>by
  obtain ⟨a,g1,g2⟩:=dP n cs y az ay
  exact ⟨a,.agg cs.toArray,by simp [Value.cells],.agg _ _ (by simpa using g1),g2⟩) h
 exact ⟨l,.cons _ _ _ _ U .nil,ae⟩
theorem sG (l:List (DataW H)):Rows.uptoBulk (.agg l)=Rows.uptoBulkAll l+1:=by simp [Rows.uptoBulk]
def fO (acG:String) (t:TypeId) (off aa5:Nat):Field:={ name:=acG,type:=t,offset:=off,embedded:=false,tag := "", pkgPath := "", byteOffset:=aa5 }
theorem aa6 {t:TypeId} {fuel:Nat} {cs:List Value} {y:DataW H×List MemPlace} (aN : Tryz.prog.underlying t=some (.int .i64)) (h:DataW.trod enc Tryz.prog w 0 (fun _=>true) true fuel t cs=some y) :
  ∃ (n:Int) (v:Value),v.cells.toList=cs∧Rel w (kt w) v (.int .i64 n)∧1≤Rows.uptoBulk y.1:=by
 obtain ⟨n,rfl,rfl,-⟩:=DataW.trod_int aN h;exact ⟨n,.int .i64 n,rfl,.int _ _,by simp [Rows.uptoBulk]⟩
theorem PQ:∀ l:List Int,(l.map fun _=>1).sum=l.length
 | []=>rfl
 | _::r=>by rw [map_cons,sum_cons,PQ r,length_cons];omega
theorem zh {fuel:Nat} {cs:List Value} {x:DataW H×List MemPlace} (h:DataW.trod enc Tryz.prog w 0 (fun _=>true) true fuel 23 cs=some x) :
  ∃ l:List Int,bF w (kt w) cs [bg l]∧l.length+1≤Rows.uptoBulk x.1:=by
 obtain ⟨c,l,rfl,U,ae⟩:=PN (sz:=1) (fun n=>af.int .i64 n) (fun _=>1) Tryz.underlying23 fC ag (fun _ _ _ _ h _=>aa6 Tryz.underlying3 h) h;rw [PQ] at ae;exact ⟨l,.cons _ _ _ _ U .nil,ae⟩
theorem PR {α:Type}:∀ l:List α,l.length≤(l.map fun _=>1).sum
 | []=>Nat.le_refl _
 | _::r=>by rw [map_cons,sum_cons,length_cons];have:=PR r;omega
def b7.weight (x:b7):Nat:=x.ms.length+1
theorem aa7 (fuel:Nat) (cs:List Value) (y:DataW H×List MemPlace) (h:DataW.trod enc Tryz.prog w 0 (fun _=>true) true fuel 69 cs=some y):∃ x:b7,bF w (kt w) cs (gY x)∧b7.weight x≤Rows.uptoBulk y.1:=by
 obtain ⟨xs,n,rfl,rfl,aB,hlen,aZ⟩:=DataW.trod_struct Tryz.underlying69 h;have PS : Tryz.prog.cellsOf 69 = 4:=by kernel_rfl
 have mJ : Tryz.prog.cellsOf 3 = 1:=by kernel_rfl
 have aa8 : Tryz.prog.cellsOf 23 = 1:=by kernel_rfl
 rw [PS] at aB
 match cs,aB,xs,hlen with
 | [v0,v1,v2,v3],_,[tY,tZ,zi,I7],_=>
  have br:=aZ 0 (fO "Atom" 3 0 0) C;have U:=aZ 1 (fO "No" 3 1 8) C;have ae:=aZ 2 (fO "Yes" 3 2 16) C;have an:=aZ 3 (fO "Methods" 23 3 24) C;simp only [fO,PS,mJ,aa8,drop,take] at br U ae an;obtain ⟨a,g0,rE⟩:=trod_int Tryz.underlying3 br;obtain ⟨no,g1,hP⟩:=trod_int Tryz.underlying3 U;obtain ⟨I8,g2,dA⟩:=trod_int Tryz.underlying3 ae;obtain ⟨ms,g3,nu⟩:=zh an;refine ⟨⟨a,no,I8,ms⟩,?_,?_⟩
  ·have:gY ⟨a,no,I8,ms⟩=[.int .i64 a]++([.int .i64 no]++([.int .i64 I8]++[bg ms])):=rfl
   rw [this];exact bF.i' (vs:=[v0]) g0 (bF.i' (vs:=[v1]) g1 (bF.i' (vs:=[v2]) g2 g3))
  ·simp only [sG,map_cons,map_nil,Rows.uptoBulkAll,b7.weight]
   omega
theorem aa9:∀ g:List b7,g.length≤(g.map b7.weight).sum
 | []=>Nat.le_refl _
 | x::r=>by rw [map_cons,sum_cons,length_cons];have:=aa9 r;unfold b7.weight at *;omega
theorem ab5 {fuel:Nat} {cs:List Value} {x:DataW H×List MemPlace} (h:DataW.trod enc Tryz.prog w 0 (fun _=>true) true fuel 28 cs=some x) :
  ∃ g:List b7,bF w (kt w) cs [fM g]∧(g.map b7.weight).sum+1≤Rows.uptoBulk x.1:=by
 obtain ⟨g,U,ae⟩:=tX (sz:=4) gY b7.weight Tryz.underlying28 fC ag (fun m cs y _ ay=>aa7 m cs y ay) h;exact ⟨g,U,ae⟩
end
end Go.Proofs.YtnafpeohfbglmaaGreat
namespace Go.Proofs.YtnafpeohfbglmaaGreat
open Go.cW Go.ChangeShapes Go.WideShapes Go.ChangeAt Go.RowKit
theorem PT {H:Type} {enc:TypeId×Value→H} {P:Program} {W xG:World} (aB:laidOutB P=true):∀ {gv:List TypeId} {vs:List Value} {cc:List (DataW H)} {ps:List MemPlace} {sp:Nat→Bool},(∀ t∈gv,P.readableRec t=true∧t<P.types.size) →
    DataW.TrodAll enc P W 0 (fun _=>true) true gv vs cc ps→(∀ p∈ps,W.sameAt xG p)→(∀ p∈ps,sp p.block=true)→DataW.TrodAll enc P xG 0 sp true gv vs cc ps
  | [],[],[],_,_,_,h,_,_=>h
  | t::gv,v::vs,d::cc,ps,sp,aN,h,au,aq=>by
    obtain ⟨p,q,U,ae,rfl⟩:=h;obtain ⟨fs,gD⟩:=aN t mem_cons_self
    exact ⟨p,q,WideElems.Trod_stays aB fs gD U (fun x ab=>au x (List.mem_append_left _ ab)) (fun x ab=>aq x (List.mem_append_left _ ab)),
      PT aB (fun t cZ=>aN t (mem_cons_of_mem _ cZ)) ae (fun x ab=>au x (List.mem_append_right _ ab)) (fun x ab=>aq x (List.mem_append_right _ ab)),rfl⟩
  | [],[],_::_,_,_,_,h,_,_=>h.elim
  | [],_::_,_,_,_,_,h,_,_=>h.elim
  | _::_,[],_,_,_,_,h,_,_=>h.elim
  | _::_,_::_,[],_,_,_,h,_,_=>h.elim
theorem ab6 {H:Type} {enc:TypeId×Value→H} {f:FuncId} {fn:Func} {spec:ChangeSpec} {W:World} {args:Array Value} {xs:List af} {cc gs:List (DataW H)} {before:List MemPlace}
  (aB:laidOutB Tryz.prog=true) (aE:∀ t∈fn.params.toList,Tryz.prog.readableRec t=true∧t < Tryz.prog.types.size) (aF:fn.resultTypes = #[4]) (av:spec.vars=[])
  (dn:gs=[]→spec.fn H (cc++gs)={ results:=[.lit (.bool true)],args:=cc })
  (gO:DataW.Whole enc Tryz.prog fn.params.toList spec.vars false W args.toList cc gs before) (eR:bF W (kt W) args.toList xs) (aA:hi Tryz.prog f xs (fun _=>none) (fun o al=>o = .ret (.bool true)∧al=fun _=>none)) :
  Calls Tryz.prog f args W fun e xG=>∃ v,e = .returned v∧spec.post enc Tryz.prog fn false true false false W args v xG:=by
 have h:=aA.2 W (kt W) args.toList (aa2 W) eR;rw [Array.toArray_toList] at h;refine Calls.mono h fun e xG ⟨cO,o,al,bk,qq,⟨ah,hG⟩,hle,aD,cd⟩=>?_
 subst ah;cases e with
 | returned v=>
  have aq:Rel xG bk v (.bool true):=qq;cases aq;have PU:Below W.heap.size W xG:=⟨hle.os,hle.tape,hle.output,hle.size,fun k eG=>aD.heap k eG C⟩;have ar:=gO.lt;have aba:=gO;obtain ⟨p,q,wu,IU,rfl,ab7,eY⟩:=gO;rw [av] at IU;obtain ⟨rfl,rfl⟩:=trodVars_none IU;have y3:=dn C;refine ⟨_,rfl,cc,[],_,[],p,[],aba,?_,?_,?_,PU.frame _,fun h=>by cases h⟩
  ·rw [y3,aF]
   exact trodAll_cons_mk (shut_bool Tryz.underlying4 _) trodAll_mk0
  ·rw [y3]
   exact PT aB aE wu (fun x ab=>PU.same (ar x (by simpa using ab))) (fun x ab=>by simpa using ar x (by simpa using ab))
  ·rw [y3,av];exact rfl
 | panicked dF=>exact qq.elim
 | outgrown=>exact qq.elim
theorem ab8 {P:Program} {W:World} {r:Reach} {b:Nat} {t e:TypeId} {v:Value} (aN:P.underlying t=some (.slice e)) (h:Value.okWide P W r b t v):v.cells = #[v]:=by
 obtain ⟨a,n,c,rfl⟩:=okWide_slice aN h;rfl
theorem ab9 {P:Program} {W:World} {r:Reach} {b:Nat} {t:TypeId} {gK:Array Field} {v:Value} (aN:P.underlying t=some (.struct gK)) (h:Value.okWide P W r b t v):∃ cs,v = .agg cs:=by
 obtain ⟨cs,U,-⟩:=okWide_struct aN h;exact ⟨cs,U⟩
theorem aca {w:World} {p:bT} {v:Value} {x:af} (av:v.cells = #[v]) (h:bF w p v.cells.toList [x]):Rel w p v x:=by
 rw [av] at h;cases h with
 | cons _ _ _ _ h _=>exact h
theorem acb {w:World} {p:bT} {v:Value} {xs:List af} (av:∃ cs,v = .agg cs) (h:bF w p v.cells.toList xs):Rel w p v (.agg xs):=by
 obtain ⟨cs,rfl⟩:=av;exact .agg _ _ h
theorem acd {P:Program} {W:World} {r:Reach} {b:Nat} {t:TypeId} {v:Value} {k:IntKind} (aN:P.underlying t=some (.int k)) (h:Value.okWide P W r b t v):v.cells = #[v]:=by
 obtain ⟨n,rfl⟩:=okWide_int aN h;rfl
theorem laidOut:laidOutB Tryz.prog=true:=by kernel_rfl
end Go.Proofs.YtnafpeohfbglmaaGreat
namespace Go.Proofs.YtnafpeohfbglmaaGreat
open Go.cW Go.dv
theorem BW {α:Type} {m:α→Nat}:∀ {l:List α} {x:α},x∈l→m x≤(l.map m).sum
  | y::r,x,h=>by
    rw [map_cons,sum_cons];rcases List.mem_cons.1 h with rfl|h
    · omega
    · have:=BW (m:=m) h;omega
mutual
def aj.weight:aj→Nat
 | .mk _ _ p _ _ ks=>p.length+6+aj.weights ks
def aj.weights:List aj→Nat
 | []=>0
 | k::r=>aj.weight k+aj.weights r
end
theorem aj.PV:∀ l:List aj,aj.weights l=(l.map aj.weight).sum
 | []=>rfl
 | k::r=>by rw [aj.weights,aj.PV r];rfl
mutual
theorem aj.PW:∀ f:aj,f.size≤aj.weight f
  | .mk o a p c n ks=>by
    have h:=aj.PX ks;have e:=(aj.mk o a p c n ks).size_eq;have U:(aj.mk o a p c n ks).kids=ks:=rfl;have ae:(aj.mk o a p c n ks).path=p:=rfl;rw [U,ae] at e;rw [aj.weight];omega
theorem aj.PX:∀ l:List aj,aj.hv l≤aj.weights l
  | []=>zero_le _
  | k::r=>by
    have U:=aj.PW k;have ae:=aj.PX r;rw [aj.hv,aj.weights];omega
end
theorem abb (ks:List aj):(ks.map fun a=>af.agg a.cells)=ks.map aj.bJ:=by
 congr 1;funext a;exact (aj.bW a).symm
section
variable {H:Type} {enc:TypeId×Value→H} {w:World}
theorem abc:∀ (fuel:Nat) (cs:List Value) (y:DataW H×List MemPlace),DataW.trod enc Tryz.prog w 0 (fun _=>true) true fuel 58 cs=some y→∃ e:aj,bF w (kt w) cs (aj.cells e)∧aj.weight e≤Rows.uptoBulk y.1:=by
 intro fuel
 induction fuel using Nat.strongRecOn with
 | _ fuel a6=>
 intro cs y h;obtain ⟨xs,n,rfl,rfl,aB,hlen,aZ⟩:=DataW.trod_struct Tryz.underlying58 h;have EG : Tryz.prog.cellsOf 58 = 6:=by kernel_rfl
 have abd : Tryz.prog.cellsOf 56 = 1:=by kernel_rfl
 have mJ : Tryz.prog.cellsOf 3 = 1:=by kernel_rfl
 have xH : Tryz.prog.cellsOf 23 = 1:=by kernel_rfl
 have abe : Tryz.prog.cellsOf 47 = 1:=by kernel_rfl
 rw [EG] at aB
 match cs,aB,xs,hlen with
 | [v0,v1,v2,v3,v4,v5],_,[tY,tZ,zi,I7,acH,acI],_=>
  have br:=aZ 0 (fO "Op" 56 0 0) C;have U:=aZ 1 (fO "Arg" 3 1 8) C;have ae:=aZ 2 (fO "Path" 23 2 16) C;have an:=aZ 3 (fO "Class" 3 3 40) C;have bd:=aZ 4 (fO "N" 3 4 48) C;have bD:=aZ 5 (fO "Kids" 47 5 56) C;simp only [fO,EG,abd,mJ,xH,abe,drop,take] at br U ae an bd bD;obtain ⟨a0,g0,rE⟩:=trod_int Tryz.underlying56 br;obtain ⟨di,g1,hP⟩:=trod_int Tryz.underlying3 U;obtain ⟨a2,g2,dA⟩:=zh ae;obtain ⟨a3,g3,nu⟩:=trod_int Tryz.underlying3 an;obtain ⟨a4,g4,ot⟩:=trod_int Tryz.underlying3 bd;obtain ⟨a5,g5,BF⟩:=tX (sz:=6) aj.cells aj.weight Tryz.underlying47 fC ag (fun m cs y hm ay=>a6 m ag cs y ay) bD;refine ⟨.mk a0 di a2 a3 a4 a5,?_,?_⟩
  ·have:aj.cells (aj.mk a0 di a2 a3 a4 a5)=[.int .i64 a0]++([.int .i64 di]++([bg a2]++([.int .i64 a3]++([.int .i64 a4]++([.aC 6 (a5.map fun a => .agg (aj.cells a)) .bc]))))):=by rw [abb];rfl
   rw [this];exact bF.i' (vs:=[v0]) g0 (bF.i' (vs:=[v1]) g1 (bF.i' (vs:=[v2]) g2 (bF.i' (vs:=[v3]) g3 (bF.i' (vs:=[v4]) g4 (g5)))))
  ·simp only [sG,map_cons,map_nil,Rows.uptoBulkAll,aj.weight,aj.PV]
   omega
def EH (x:iT):List af:=[.int .i64 x.slot,.int .i64 x.n]
def iT.weight (_x:iT):Nat:=2
theorem abf (fuel:Nat) (cs:List Value) (y:DataW H×List MemPlace) (h:DataW.trod enc Tryz.prog w 0 (fun _=>true) true fuel 241 cs=some y):∃ e:iT,bF w (kt w) cs (EH e)∧iT.weight e≤Rows.uptoBulk y.1:=by
 obtain ⟨xs,n,rfl,rfl,aB,hlen,aZ⟩:=DataW.trod_struct Tryz.underlying241 h;have PY : Tryz.prog.cellsOf 241 = 2:=by kernel_rfl
 have mJ : Tryz.prog.cellsOf 3 = 1:=by kernel_rfl
 rw [PY] at aB
 match cs,aB,xs,hlen with
 | [v0,v1],_,[tY,tZ],_=>
  have br:=aZ 0 (fO "Slot" 3 0 0) C;have U:=aZ 1 (fO "N" 3 1 8) C;simp only [fO,PY,mJ,drop,take] at br U;obtain ⟨a0,g0,rE⟩:=trod_int Tryz.underlying3 br;obtain ⟨di,g1,hP⟩:=trod_int Tryz.underlying3 U;refine ⟨iT.mk a0 di,?_,?_⟩
  ·have:EH (iT.mk a0 di)=[.int .i64 a0]++([.int .i64 di]):=rfl
   rw [this];exact bF.i' (vs:=[v0]) g0 (g1)
  ·simp only [sG,map_cons,map_nil,Rows.uptoBulkAll,iT.weight]
   omega
def fK.weight (x:fK):Nat:=x.parents.length+x.bl.length+(x.inits.map iT.weight).sum+3
theorem abg (fuel:Nat) (cs:List Value) (y:DataW H×List MemPlace) (h:DataW.trod enc Tryz.prog w 0 (fun _=>true) true fuel 76 cs=some y):∃ e:fK,bF w (kt w) cs (m4 e)∧fK.weight e≤Rows.uptoBulk y.1:=by
 obtain ⟨xs,n,rfl,rfl,aB,hlen,aZ⟩:=DataW.trod_struct Tryz.underlying76 h;have PZ : Tryz.prog.cellsOf 76 = 3:=by kernel_rfl
 have xH : Tryz.prog.cellsOf 23 = 1:=by kernel_rfl
 have abh : Tryz.prog.cellsOf 74 = 1:=by kernel_rfl
 rw [PZ] at aB
 match cs,aB,xs,hlen with
 | [v0,v1,v2],_,[tY,tZ,zi],_=>
  have br:=aZ 0 (fO "Parents" 23 0 0) C;have U:=aZ 1 (fO "Slots" 23 1 24) C;have ae:=aZ 2 (fO "Inits" 74 2 48) C;simp only [fO,PZ,xH,abh,drop,take] at br U ae;obtain ⟨a0,g0,rE⟩:=zh br;obtain ⟨di,g1,hP⟩:=zh U;obtain ⟨a2,g2,dA⟩:=tX (sz:=2) EH iT.weight Tryz.underlying74 fC ag (fun m cs y _ ay=>abf m cs y ay) ae;refine ⟨fK.mk a0 di a2,?_,?_⟩
  ·have:m4 (fK.mk a0 di a2)=[bg a0]++([bg di]++([.aC 2 (a2.map fun a => .agg (EH a)) .bc])):=rfl
   rw [this];exact bF.i' (vs:=[v0]) g0 (bF.i' (vs:=[v1]) g1 (g2))
  ·simp only [sG,map_cons,map_nil,Rows.uptoBulkAll,fK.weight]
   omega
def hJ.weight (x:hJ):Nat:=aj.weight x.fact+3
theorem abi (fuel:Nat) (cs:List Value) (y:DataW H×List MemPlace) (h:DataW.trod enc Tryz.prog w 0 (fun _=>true) true fuel 89 cs=some y):∃ e:hJ,bF w (kt w) cs (nE e)∧hJ.weight e≤Rows.uptoBulk y.1:=by
 obtain ⟨xs,n,rfl,rfl,aB,hlen,aZ⟩:=DataW.trod_struct Tryz.underlying89 h;have P0 : Tryz.prog.cellsOf 89 = 9:=by kernel_rfl
 have abj : Tryz.prog.cellsOf 87 = 1:=by kernel_rfl
 have mJ : Tryz.prog.cellsOf 3 = 1:=by kernel_rfl
 have EG : Tryz.prog.cellsOf 58 = 6:=by kernel_rfl
 rw [P0] at aB
 match cs,aB,xs,hlen with
 | [v0,v1,v2,v3,v4,v5,v6,acD,acW],_,[tY,tZ,zi,I7],_=>
  have br:=aZ 0 (fO "Kind" 87 0 0) C;have U:=aZ 1 (fO "Gen" 3 1 8) C;have ae:=aZ 2 (fO "Fact" 58 2 16) C;have an:=aZ 3 (fO "Node" 3 8 96) C;simp only [fO,P0,abj,mJ,EG,drop,take] at br U ae an;obtain ⟨a0,g0,rE⟩:=trod_int Tryz.underlying87 br;obtain ⟨di,g1,hP⟩:=trod_int Tryz.underlying3 U;obtain ⟨a2,g2,dA⟩:=abc _ _ _ ae;obtain ⟨a3,g3,nu⟩:=trod_int Tryz.underlying3 an;refine ⟨hJ.mk a0 di a2 a3,?_,?_⟩
  ·have:nE (hJ.mk a0 di a2 a3)=[.int .i64 a0]++([.int .i64 di]++((aj.cells a2)++([.int .i64 a3]))):=by simp only [nE,aj.cells,cons_append,nil_append]
   rw [this];exact bF.i' (vs:=[v0]) g0 (bF.i' (vs:=[v1]) g1 (bF.i' (vs:=[v2,v3,v4,v5,v6,acD]) g2 (g3)))
  ·simp only [sG,map_cons,map_nil,Rows.uptoBulkAll,hJ.weight]
   omega
def iU.weight (x:iU):Nat:=x.kids.length+3
theorem abk (fuel:Nat) (cs:List Value) (y:DataW H×List MemPlace) (h:DataW.trod enc Tryz.prog w 0 (fun _=>true) true fuel 85 cs=some y):∃ e:iU,bF w (kt w) cs (k4 e)∧iU.weight e≤Rows.uptoBulk y.1:=by
 obtain ⟨xs,n,rfl,rfl,aB,hlen,aZ⟩:=DataW.trod_struct Tryz.underlying85 h;have P1 : Tryz.prog.cellsOf 85 = 3:=by kernel_rfl
 have abl : Tryz.prog.cellsOf 83 = 1:=by kernel_rfl
 have mJ : Tryz.prog.cellsOf 3 = 1:=by kernel_rfl
 have xH : Tryz.prog.cellsOf 23 = 1:=by kernel_rfl
 rw [P1] at aB
 match cs,aB,xs,hlen with
 | [v0,v1,v2],_,[tY,tZ,zi],_=>
  have br:=aZ 0 (fO "Op" 83 0 0) C;have U:=aZ 1 (fO "N" 3 1 8) C;have ae:=aZ 2 (fO "Kids" 23 2 16) C;simp only [fO,P1,abl,mJ,xH,drop,take] at br U ae;obtain ⟨a0,g0,rE⟩:=trod_int Tryz.underlying83 br;obtain ⟨di,g1,hP⟩:=trod_int Tryz.underlying3 U;obtain ⟨a2,g2,dA⟩:=zh ae;refine ⟨iU.mk a0 di a2,?_,?_⟩
  ·have:k4 (iU.mk a0 di a2)=[.int .i64 a0]++([.int .i64 di]++([bg a2])):=rfl
   rw [this];exact bF.i' (vs:=[v0]) g0 (bF.i' (vs:=[v1]) g1 (g2))
  ·simp only [sG,map_cons,map_nil,Rows.uptoBulkAll,iU.weight]
   omega
def bP.weight (x:bP):Nat:=(x.cl.map fK.weight).sum+x.dw.length+(x.methods.map hJ.weight).sum+(x.nodes.map iU.weight).sum+6
theorem ace (fuel:Nat) (cs:List Value) (y:DataW H×List MemPlace) (h:DataW.trod enc Tryz.prog w 0 (fun _=>true) true fuel 27 cs=some y):∃ e:bP,bF w (kt w) cs (cL e)∧bP.weight e≤Rows.uptoBulk y.1:=by
 obtain ⟨xs,n,rfl,rfl,aB,hlen,aZ⟩:=DataW.trod_struct Tryz.underlying27 h;have P2 : Tryz.prog.cellsOf 27 = 6:=by kernel_rfl
 have abm : Tryz.prog.cellsOf 22 = 1:=by kernel_rfl
 have mJ : Tryz.prog.cellsOf 3 = 1:=by kernel_rfl
 have xH : Tryz.prog.cellsOf 23 = 1:=by kernel_rfl
 have abn : Tryz.prog.cellsOf 24 = 1:=by kernel_rfl
 have abo : Tryz.prog.cellsOf 25 = 1:=by kernel_rfl
 rw [P2] at aB
 match cs,aB,xs,hlen with
 | [v0,v1,v2,v3,v4,v5],_,[tY,tZ,zi,I7,acH,acI],_=>
  have br:=aZ 0 (fO "Classes" 22 0 0) C;have U:=aZ 1 (fO "Slots" 3 1 24) C;have ae:=aZ 2 (fO "Gens" 23 2 32) C;have an:=aZ 3 (fO "Methods" 24 3 56) C;have bd:=aZ 4 (fO "Nodes" 25 4 80) C;have bD:=aZ 5 (fO "Main" 3 5 104) C;simp only [fO,P2,abm,mJ,xH,abn,abo,drop,take] at br U ae an bd bD;obtain ⟨a0,g0,rE⟩:=tX (sz:=3) m4 fK.weight Tryz.underlying22 fC ag (fun m cs y _ ay=>abg m cs y ay) br;obtain ⟨di,g1,hP⟩:=trod_int Tryz.underlying3 U;obtain ⟨a2,g2,dA⟩:=zh ae;obtain ⟨a3,g3,nu⟩:=tX (sz:=9) nE hJ.weight Tryz.underlying24 fC ag (fun m cs y _ ay=>abi m cs y ay) an;obtain ⟨a4,g4,ot⟩:=tX (sz:=3) k4 iU.weight Tryz.underlying25 fC ag (fun m cs y _ ay=>abk m cs y ay) bd;obtain ⟨a5,g5,BF⟩:=trod_int Tryz.underlying3 bD;refine ⟨bP.mk a0 di a2 a3 a4 a5,?_,?_⟩
  ·have:cL (bP.mk a0 di a2 a3 a4 a5)=[.aC 3 (a0.map fun a => .agg (m4 a)) .bc]++([.int .i64 di]++([bg a2]++([.aC 9 (a3.map fun a => .agg (nE a)) .bc]++([.aC 3 (a4.map fun a => .agg (k4 a)) .bc]++([.int .i64 a5]))))):=rfl
   rw [this];exact bF.i' (vs:=[v0]) g0 (bF.i' (vs:=[v1]) g1 (bF.i' (vs:=[v2]) g2 (bF.i' (vs:=[v3]) g3 (bF.i' (vs:=[v4]) g4 (g5)))))
  ·simp only [sG,map_cons,map_nil,Rows.uptoBulkAll,bP.weight]
   omega
def vw (v:Int×Int):List af:=[.int .i64 v.1,.int .i64 v.2]
def sH (_v:Int×Int):Nat:=2
theorem P3 (fuel:Nat) (cs:List Value) (y:DataW H×List MemPlace) (h:DataW.trod enc Tryz.prog w 0 (fun _=>true) true fuel 122 cs=some y):∃ e:Int×Int,bF w (kt w) cs (vw e)∧sH e≤Rows.uptoBulk y.1:=by
 obtain ⟨xs,n,rfl,rfl,aB,hlen,aZ⟩:=DataW.trod_struct Tryz.underlying122 h;have P4 : Tryz.prog.cellsOf 122 = 2:=by kernel_rfl
 have abp : Tryz.prog.cellsOf 120 = 1:=by kernel_rfl
 have mJ : Tryz.prog.cellsOf 3 = 1:=by kernel_rfl
 rw [P4] at aB
 match cs,aB,xs,hlen with
 | [v0,v1],_,[tY,tZ],_=>
  have br:=aZ 0 (fO "Kind" 120 0 0) C;have U:=aZ 1 (fO "N" 3 1 8) C;simp only [fO,P4,abp,mJ,drop,take] at br U;obtain ⟨a0,g0,rE⟩:=trod_int Tryz.underlying120 br;obtain ⟨di,g1,hP⟩:=trod_int Tryz.underlying3 U;refine ⟨Prod.mk a0 di,?_,?_⟩
  ·have:vw (Prod.mk a0 di)=[.int .i64 a0]++([.int .i64 di]):=rfl
   rw [this];exact bF.i' (vs:=[v0]) g0 (g1)
  ·simp only [sG,map_cons,map_nil,Rows.uptoBulkAll,sH]
   omega
def BX (x:dD):List af:=[.int .i64 x.cls,.aC 2 (x.bl.map fun v => .agg (vw v)) .bc]
def dD.weight (x:dD):Nat:=(x.bl.map sH).sum+2
theorem abq (fuel:Nat) (cs:List Value) (y:DataW H×List MemPlace) (h:DataW.trod enc Tryz.prog w 0 (fun _=>true) true fuel 198 cs=some y):∃ e:dD,bF w (kt w) cs (BX e)∧dD.weight e≤Rows.uptoBulk y.1:=by
 obtain ⟨xs,n,rfl,rfl,aB,hlen,aZ⟩:=DataW.trod_struct Tryz.underlying198 h;have P5 : Tryz.prog.cellsOf 198 = 2:=by kernel_rfl
 have mJ : Tryz.prog.cellsOf 3 = 1:=by kernel_rfl
 have I9 : Tryz.prog.cellsOf 40 = 1:=by kernel_rfl
 rw [P5] at aB
 match cs,aB,xs,hlen with
 | [v0,v1],_,[tY,tZ],_=>
  have br:=aZ 0 (fO "Class" 3 0 0) C;have U:=aZ 1 (fO "Slots" 40 1 8) C;simp only [fO,P5,mJ,I9,drop,take] at br U;obtain ⟨a0,g0,rE⟩:=trod_int Tryz.underlying3 br;obtain ⟨di,g1,hP⟩:=tX (sz:=2) vw sH Tryz.underlying40 fC ag (fun m cs y _ ay=>P3 m cs y ay) U;refine ⟨dD.mk a0 di,?_,?_⟩
  ·have:BX (dD.mk a0 di)=[.int .i64 a0]++([.aC 2 (di.map fun a => .agg (vw a)) .bc]):=rfl
   rw [this];exact bF.i' (vs:=[v0]) g0 (g1)
  ·simp only [sG,map_cons,map_nil,Rows.uptoBulkAll,dD.weight]
   omega
structure Ask where
 aU:List dD
 gen:Int
 args:List (Int×Int)
def P6 (x:Ask):List af:=[.aC 2 (x.aU.map fun o => .agg (BX o)) .bc,.int .i64 x.gen,.aC 2 (x.args.map fun v => .agg (vw v)) .bc]
def Ask.weight (x:Ask):Nat:=(x.aU.map dD.weight).sum+(x.args.map sH).sum+3
theorem acf (fuel:Nat) (cs:List Value) (y:DataW H×List MemPlace) (h:DataW.trod enc Tryz.prog w 0 (fun _=>true) true fuel 42 cs=some y):∃ e:Ask,bF w (kt w) cs (P6 e)∧Ask.weight e≤Rows.uptoBulk y.1:=by
 obtain ⟨xs,n,rfl,rfl,aB,hlen,aZ⟩:=DataW.trod_struct Tryz.underlying42 h;have P7 : Tryz.prog.cellsOf 42 = 3:=by kernel_rfl
 have abr : Tryz.prog.cellsOf 39 = 1:=by kernel_rfl
 have mJ : Tryz.prog.cellsOf 3 = 1:=by kernel_rfl
 have I9 : Tryz.prog.cellsOf 40 = 1:=by kernel_rfl
 rw [P7] at aB
 match cs,aB,xs,hlen with
 | [v0,v1,v2],_,[tY,tZ,zi],_=>
  have br:=aZ 0 (fO "Objs" 39 0 0) C;have U:=aZ 1 (fO "Gen" 3 1 24) C;have ae:=aZ 2 (fO "Args" 40 2 32) C;simp only [fO,P7,abr,mJ,I9,drop,take] at br U ae;obtain ⟨a0,g0,rE⟩:=tX (sz:=2) BX dD.weight Tryz.underlying39 fC ag (fun m cs y _ ay=>abq m cs y ay) br;obtain ⟨di,g1,hP⟩:=trod_int Tryz.underlying3 U;obtain ⟨a2,g2,dA⟩:=tX (sz:=2) vw sH Tryz.underlying40 fC ag (fun m cs y _ ay=>P3 m cs y ay) ae;refine ⟨Ask.mk a0 di a2,?_,?_⟩
  ·have:P6 (Ask.mk a0 di a2)=[.aC 2 (a0.map fun a => .agg (BX a)) .bc]++([.int .i64 di]++([.aC 2 (a2.map fun a => .agg (vw a)) .bc])):=rfl
   rw [this];exact bF.i' (vs:=[v0]) g0 (bF.i' (vs:=[v1]) g1 (g2))
  ·simp only [sG,map_cons,map_nil,Rows.uptoBulkAll,Ask.weight]
   omega
end
theorem bP.small {p:bP} (h:bP.weight p≤1048576):fN p:=by
 have aq:=bC;unfold bP.weight at h;have U:=PR p.cl;have au:∀ {α:Type} (l:List α) (m:α→Nat),(∀ x,1≤m x)→l.length≤(l.map m).sum:=fun l m hm=>by
  induction l with
  | nil=>exact zero_le _
  | cons x r a6=>rw [map_cons,sum_cons,length_cons];have:=hm x;omega
 have c7:=au p.cl fK.weight (fun x=>by unfold fK.weight;omega);have dh:=au p.methods hJ.weight (fun x=>by unfold hJ.weight;omega);have e3:=au p.nodes iU.weight (fun x=>by unfold iU.weight;omega);refine ⟨by omega,fun c aA=>?_,by omega,by omega,fun m hm=>?_,by omega,fun x ab=>?_⟩
 ·have:=BW (m:=fK.weight) aA
  unfold fK.weight at this;have:=au c.inits iT.weight (fun x=>by unfold iT.weight;omega);unfold fK.weight at *;omega
 ·have:=BW (m:=hJ.weight) hm
  have:=aj.PW m.fact;unfold hJ.weight at *;omega
 ·have:=BW (m:=iU.weight) ab
  unfold iU.weight at *;omega
theorem Ask.small {x:Ask} (h:Ask.weight x≤1048576):x.aU.length<bu∧(∀ o∈x.aU,o.bl.length<bu)∧x.args.length<bu:=by
 have aq:=bC;unfold Ask.weight at h;have au:∀ {α:Type} (l:List α) (m:α→Nat),(∀ x,1≤m x)→l.length≤(l.map m).sum:=fun l m hm=>by
  induction l with
  | nil=>exact zero_le _
  | cons x r a6=>rw [map_cons,sum_cons,length_cons];have:=hm x;omega
 have c7:=au x.aU dD.weight (fun x=>by unfold dD.weight;omega);have dh:=au x.args sH (fun x=>by unfold sH;omega);refine ⟨by omega,fun o ah=>?_,by omega⟩;have:=BW (m:=dD.weight) ah;have:=au o.bl sH (fun x=>by unfold sH;omega);unfold dD.weight at *;omega
end Go.Proofs.YtnafpeohfbglmaaGreat
namespace Go.Proofs.YtnafpeohfbglmaaGreat
theorem acg:mapsRowed Tryz.prog=true:=by kernel_rfl
theorem ach:(Tryz.prog.stops==[])=true:=by kernel_rfl
theorem aci:(Tryz.prog.stopKnobs==[])=true:=by kernel_rfl
theorem acj : Tryz.prog.stopsHeard=true:=by kernel_rfl
theorem ack : Tryz.prog.mayEnter=true:=by kernel_rfl
theorem acm:(Rows.treeSmallsUptoRow.lifted == Tryz.prog.liftsFinal)=true:=by kernel_rfl
theorem acn:(Tryz.prog.make==some Rows.treeSmallsUptoRow.make)=true:=by kernel_rfl
theorem aco:(Rows.treeSmallsUptoRow.plainKeys == Tryz.prog.plainKeys)=true:=by kernel_rfl
end Go.Proofs.YtnafpeohfbglmaaGreat
