import Derived.Test.YtnafpeohfbglmaaGreatMg
import Derived.Test.YtnafpeohfbglmaaGreatRows
import Derived.ProofKit
import Derived.OpenShut
import Derived.WalkKit
import Derived.JoinedCond
set_option linter.unusedVariables false
set_option linter.unusedSimpArgs false
set_option maxRecDepth 100000
set_option maxHeartbeats 4000000
open Array renaming length_toList→ac6
open Bool renaming and_assoc→az1,and_eq_true→f6,and_false→ai5,and_true→am8,eq_false_iff→ae9,eq_iff_iff→ad1,false_and→f7,false_eq_true→ad5,false_or→af1,not_eq_false'→ax3,not_eq_true'→ag5,not_false→ah3,not_true→ah7,or_assoc→ap1,or_eq_false_iff→ai2,or_eq_true→ag9,or_false→ak5,true_and→f4,true_or→al7
open Int renaming natCast_nonneg→ap9,toNat_natCast→ac3
open Go.IntKind renaming wrap→aa'
open List renaming all_cons→aj6,all_eq_true→ae',any_cons→ai6,any_eq_false→ah',any_eq_true→ae4,cons_append→t8,cons_beq_cons→ap8,contains_append→al2,contains_iff_mem→af8,drop_nil→aq8,drop_succ_cons→al4,drop→ap6,filter_append→ap5,filter_congr→ax6,filter_cons→ai8,filter_nil→ap4,foldl_append→an',foldl_cons→af0,foldl_nil→at4,getD_eq_getElem?_getD→d5,getElem?_append_left→ad3,getElem?_append_right→ad6,getElem?_drop→al',getElem?_eq_getElem→f8,getElem?_eq_some_iff→ac1,getElem?_of_mem→ag7,getElem_mem→ak3,length_append→d9,length_cons→i7,length_filter_le→aj0,length_map→f5,length_nil→ae1,length_singleton→ac8,length_take→ac9,length→ap',map_append→ac2,map_cons→ac0,map_nil→ae3,mem_append_left→ai0,mem_append_right→an6,mem_append→ac7,mem_cons_of_mem→g7,mem_cons_self→i5,mem_filter→af4,mem_map→ad2,mem_of_getElem?→d6,mem_of_mem_take→am5,mem_range→ah6,mem_singleton→t7,nil_append→d7,range_succ→an5,range→af7,replicate→t6,sum_cons→an8,take_add_one→ak7,take_length→ac',take→as1
open Nat renaming add_assoc→ak4,add_zero→am4,blt→i9,eq_of_testBit_eq→al1,le_refl→i0,lt_of_le_of_lt→ah9,lt_or_ge→ao6,lt_succ_iff_lt_or_eq→af3,lt_succ_self→ak',or_lt_two_pow→ag',pow_le_pow_right→af6,pow_lt_pow_right→ag6,pow_succ→as6,strongRecOn→as5,testBit_and→aj2,testBit_or→aj7,testBit_two_pow_sub_one→af9,testBit_two_pow→ai9,testBit_xor→ap2,zero_add→ad8,zero_le→g9,zero_testBit→ao4
open Option renaming bind_eq_some_iff→ar6,getD_some→ae7
open Go.Sem renaming run_bind→z2
open Go.Proofs.Tryz renaming prog→d0
namespace Go.Proofs.YtnafpeohfbglmaaGreat
theorem Om {p:Prop} (h:p:=by repeat (first|exact trivial|refine ⟨⟨_,rfl,aM⟩,?_⟩|refine ⟨⟨_,rfl,aR.of_eq (by (first|rw [kV (by omega)]|(show _=kI (ca.test _ _ _);rw [kI,Ce,H9])))⟩,?_⟩)):p:=h
theorem A4 {p:Prop} (h:p:=by show l.length-(i+1)<l.length-i;omega):p:=h
def uD (w:bw) (bf:List ev) (args:List (Int×Int)) (f:aq):Bool:=(m8 w f bf args).2==0&&(m8 w f bf args).1
def uE (q:aq→Bool):Nat→List aq→Nat→Nat
 | _,[],v=>v
 | i,f::r,v=>uE q (i+1) r (if q f then v|||2^i else v)
theorem On (q:aq→Bool):∀ (l:List aq) (i v:Nat),v<2^i→uE q i l v<2^(i+l.length)
  | [],i,v,h=>h
  | f::r,i,v,h=>by
    have U:(if q f then v|||2^i else v)<2^(i+1):=by
      have ad:2^i<2^(i+1):=ag6 ag ag;split
      · exact ag' ag ad
      · omega
    have:=On q r (i+1) _ U;rw [uE,i7,show i+(r.length+1)=i+1+r.length by omega];exact this
def A5 (p:bK) (bf:List ev) (n:Int) (args:List (Int×Int)):Nat:=uE (uD (b3 p) bf args) 0 (cF p n) 0
def uF (p:bK) (bf:List ev) (n:Int) (args:List (Int×Int)) (g:List bJ):Int:=
 if !(s' p bf n args) || !je g then 2 else if eK p n=0 then (if Ax p n g then 0 else 7) else eK p n
def H' (p:bK) (bf:List ev) (n:Int) (args:List (Int×Int)) (g:List bJ):af:=
 .cg [if uF p bf n args g=0 then bk (g.getD (leads g (A5 p bf n args)).1.toNat default).ms else .ay 0 [] .nil,.int .i64 (if uF p bf n args g=0 then ((leads g (A5 p bf n args)).2:Int) else 0),.int .i64 (uF p bf n args g)]
theorem Zg {g:List bJ} (h:je g=true):∀ x∈g,x.ms.length≤16:=fun x ab=>by
 obtain ⟨i,aS⟩:=ag7 ab;have aA:=vP h aS;by_cases a8:x.atom = -1
 ·exact ((sM a8).1 aA).2.2.1
 ·have:=((oA a8).1 aA).2.2.2.2.2.2
  omega
theorem Zh {i:Nat} (h:i≤7):aa' .i64 (1*2^(min (i:Int).toNat (IntKind.bits .i64)))=((2^i:Nat):Int):=HX h
theorem Zi (p:bK) (aE:fD p) (n:Int) (bf:List ev) (args:List (Int×Int)) (aB:bf.length<bt) (ah:∀ o∈bf,o.bj.length<bt) (qf:args.length<bt) (g:List bJ) (au:g.length<bt):aU d0 22 [cW p,hb bf,.int .i64 n,kE args,iq g] (H' p bf n args g):=by
 have an:=bC;refine aU.bn aj Tryz.func22 C C fun s I=>?_
 have n2:=Zf p aE n bf args aB ah qf;have a1:=F0 g au;have a8:=AQ p aE n;have eV:uF p bf n args g=if !(s' p bf n args) || !je g then 2 else if eK p n=0 then (if Ax p n g then 0 else 7) else eK p n:=rfl
 unfold H';cases ir:s' p bf n args with
 | false=>
  rw [ir] at eV;have eV:uF p bf n args g=2:=eV;unfold DJ at n2;rw [ir,f0 bc,f0 bc] at n2;rw [eV,f0 bc,f0 bc];unfold cW cV hb kE iq at *;refine cD ?_;exact bA I
 | true=>
 have eL:fs p=true:=by unfold s' at ir;rw [f6] at ir;exact ir.1
 unfold DJ at n2;rw [ir,f9 C,f9 C] at n2;cases lZ:je g with
 | false=>
  rw [ir,lZ] at eV;have eV:uF p bf n args g=2:=eV;rw [lZ] at a1;rw [eV,f0 bc,f0 bc];unfold cW cV hb kE iq at *;refine cD ?_;exact bA I
 | true=>
 rw [ir,lZ] at eV;have eV:uF p bf n args g=if eK p n=0 then (if Ax p n g then 0 else 7) else eK p n:=eV
 rw [lZ] at a1;unfold cW cV hb kE iq at *;refine cD ?_;refine aa.bZ rfl rfl rfl rfl rfl a8 I .nil ?_ (fun _ _ h _=>by rcases h with ⟨_,_,_,_,h,_⟩|⟨_,⟨_,h⟩,_⟩<;>cases h);rintro _ _ (⟨he,cd,an,cw,⟨⟩,rfl⟩|⟨he,⟨v,⟨⟩⟩,rfl⟩) I;rotate_left
 ·rw [f0 he] at eV
  rw [eV,f0 he,f0 he];simp only [d7] at I ⊢;refine dT ?_;refine ae.cond C (fun _=>?_) (fun h=>absurd gT he);refine gO ?_;exact bA I
 rw [f9 he] at eV;obtain ⟨eL,hK,dP,e2,gE⟩:=rU he;have aC:=YT p aE eL n (cF p n) an cw cd hK dP e2 gE g lZ;have Eu:(g.all (fun x=>decide (x.atom<((cF p n).length:Int)))&&(hA (b3 p) (cF p n)).all (uC p n (cF p n) g))=Ax p n g:=rfl;rw [Eu] at aC;unfold dU iq at aC;simp only [t8,d7] at I ⊢;refine bG ?_;refine aa.bZ rfl rfl rfl rfl rfl aC I a7 ?_ (fun _ _ ⟨h,_⟩ _=>by cases h);rintro _ _ ⟨⟨⟩,Dd,m,rfl⟩ I;simp only [t8,d7] at I ⊢;cases B0:Ax p n g with
 | false=>
  rw [B0,f0 bc] at eV;rw [eV,f0 bc,f0 bc];refine dT ?_;exact bA I
 | true=>
 rw [B0,f9 C] at eV;rw [eV,f9 C,f9 C];have DI:A5 p bf n args=uE (uD (b3 p) bf args) 0 (cF p n) 0:=rfl;have fq:=On (uD (b3 p) bf args) (cF p n) 0 0 bc;rw [ad8] at fq;have yk:2^(cF p n).length≤2^7:=af6 ag hK;rw [← DI] at fq;generalize A5 p bf n args=view at *;have rK:=MM g lZ view ag;obtain ⟨Oo,A6,g1,g2,-⟩:=MO lZ view;have hN:A6.ms.length≤16:=(Zg lZ) A6 (d6 g2);have cu:=zT A6.ms .aZ ag;have pY:(g.map eS)[Oo]? = some (eS A6):=by rw [List.getElem?_map,g2];rfl
 rw [g1] at rK ⊢;rw [ac3,show g.getD Oo default=A6 by rw [d5,g2];rfl];unfold iq at rK;unfold eS hy at pY;unfold dK dp at I ⊢;generalize bY:cF p n=l at *;refine ha I ?_;intro I;refine ae.cl [1,3,4,15,55,56] C I (σ:=Nat×Nat) (fun q=>[(57,.int .i64 (q.1:Int)),(17,.int .i64 (q.2:Int))]) (fun _=>[dU p n (dp l) Dd an cw cd]) (fun q=>q.1≤l.length∧q.2<2^q.1∧view=uE (uD (b3 p) bf args) q.1 (l.drop q.1) q.2) (fun q=>l.length-q.1) (0,0) ⟨g9 _,by simp,DI⟩ (cI C) (by simp only [dU,dK,dp];exact a7) ?_;rintro ⟨j,v⟩ ⟨aO,ar,aw⟩ I;simp only [dU,dK,dp] at aO ar aw I ⊢;have abu:2^j≤2^7:=af6 ag ag;refine ck ?_;refine ae.cond C (fun az=>?_) (fun a'=>?_);rotate_left
 ·have a':j=l.length:=by simp at a';omega
  rw [eR ag,uE] at aw;subst aw;refine di ?_;exact bA I
 have az:j<l.length:=by simpa using az
 obtain ⟨f,ab,ct⟩:=cf (f:=aq.cb) az;have rR:=dP f (d6 ab);have GL:f.size<bt:=by
  have U:=f.size_eq;have ad:=uB rR.1 rR.2;have al:=AW rR.1 rR.2;rw [al,aq.iC] at U;omega
 have tX:=Gl (b3 p) (uA eL) f GL bf args aB ah qf;rw [drop_cons ab,uE] at aw;have kU:uD (b3 p) bf args f=((m8 (b3 p) f bf args).2==0&&(m8 (b3 p) f bf args).1):=rfl;generalize m8 (b3 p) f bf args=r at tX kU;obtain ⟨hU,b7⟩:=r;rw [aq.cE] at ct tX;unfold aq.cells fw fu hb kE at *;simp only at kU tX;by_cases bo:b7=0
 ·subst bo
  cases hU with
  | true=>
   have kU:uD (b3 p) bf args f=true:=kU;rw [kU,f9 C] at aw
   repeat (first|(refine Sa I ?_;clear I;intro I)|refine aa.dO aj I rfl rfl rfl rfl rfl rfl rfl (fun cy I=>?_)|(refine E' I ?_;clear I;intro I))
   refine aa.shl ((2^j:Nat):Int) C C C C C C ag (Zh ag) ?_;refine aa.bits _ C C C C C C (Sy ag ag) ?_;refine hI ?_;exact bF.mk (j+1,v|||2^j) I ⟨az,ag' (by rw [as6];omega) (ag6 ag ag),aw⟩ cC a7 rk
  | false=>
   have kU:uD (b3 p) bf args f=false:=kU;rw [kU,f0 bc] at aw
   repeat (first|(refine Sb I ?_;clear I;intro I)|refine aa.dO aj I rfl rfl rfl rfl rfl rfl rfl (fun cy I=>?_)|(refine E' I ?_;clear I;intro I))
   exact bF.mk (j+1,v) I ⟨az,by show v<2^(j+1);rw [as6];omega,aw⟩ cC a7 rk
 ·have kU:uD (b3 p) bf args f=false:=by rw [kU,show (b7==0)=false from beq_eq_false_iff_ne.2 bo,f7]
  rw [kU,f0 bc] at aw
  repeat (first|(refine Sc I ?_;clear I;intro I)|refine aa.dO aj I rfl rfl rfl rfl rfl rfl rfl (fun cy I=>?_)|(refine E' I ?_;clear I;intro I))
  refine aa.dc 75 C (beq_eq_false_iff_ne.2 bo) ?_;refine bG ?_;exact bF.mk (j+1,v) I ⟨az,by show v<2^(j+1);rw [as6];omega,aw⟩ cC a7 rk
def eM (ws:List Nat) (u:Nat):Bool:=ws.contains u
theorem Zj {vs:List Nat} {q:Nat→Bool} {v:Nat} (h:v∈vs):eM (vs.filter q) v=q v:=by
 unfold eM;rw [ad1,af8,af4];exact ⟨fun h=>h.2,fun ad=>⟨h,ad⟩⟩
def iT (vs ws:List Nat):Prop:=∃ q,ws=vs.filter q
theorem iT.all (vs:List Nat):iT vs vs:=⟨fun _=>true,(List.filter_eq_self.2 fun _ _=>rfl).symm⟩
theorem iT.filter {vs ws:List Nat} (h:iT vs ws) (q:Nat→Bool):iT vs (ws.filter q):=by
 obtain ⟨r,rfl⟩:=h;exact ⟨_,List.filter_filter⟩
theorem iT.mem {vs ws:List Nat} (h:iT vs ws) {v:Nat} (ar:v∈ws):v∈vs:=by
 obtain ⟨r,rfl⟩:=h;exact (af4.1 ar).1
theorem iT.len {vs ws:List Nat} (h:iT vs ws):ws.length≤vs.length:=by
 obtain ⟨r,rfl⟩:=h;exact aj0 _ _
theorem iT.self {vs ws:List Nat} (h:iT vs ws):vs.filter (eM ws)=ws:=by
 obtain ⟨r,rfl⟩:=h;exact ax6 fun v ar=>Zj ar
theorem iT.inj {vs ws A7:List Nat} (eB:∀ v∈vs,v<128) (h:iT vs ws) (eT:iT vs A7) (he:jL (eM ws)=jL (eM A7)):ws=A7:=by
 have:=Yy he;rw [← h.self,← eT.self];exact ax6 fun v ar=>this v (eB v ar)
theorem Oq {vs ws:List Nat} (eB:∀ v∈vs,v<128) (h:iT vs ws):(jL (eM ws)==[0,0])=ws.isEmpty:=by
 rw [ad1,aj1,List.isEmpty_iff,← Yz];constructor
 ·intro he
  have bo:iT vs []:=⟨fun _=>false,by simp⟩;exact h.inj eB bo he
 ·rintro rfl
  rfl
def qN (A:Nat) (h:Nat→List Int) (vs:List Nat) (M:List (List Int×af)):Prop:=∀ e∈M,∃ ws,iT vs ws∧e=(jL (eM ws),kI (gz A h ws))
theorem qN.len {A:Nat} {h:Nat→List Int} {vs:List Nat} {M:List (List Int×af)} (e7:qN A h vs M):∀ e∈M,e.1.length=2:=fun e he=>by
 obtain ⟨ws,_,rfl⟩:=e7 e he;rfl
theorem qN.find {A:Nat} {h:Nat→List Int} {vs ws:List Nat} {M:List (List Int×af)} {e:List Int×af} (eB:∀ v∈vs,v<128) (e7:qN A h vs M) (hw:iT vs ws) (a1:M.find? (fun e=>e.1==jL (eM ws))=some e):e.2=kI (gz A h ws):=by
 obtain ⟨A7,U,ad⟩:=e7 e (List.mem_of_find?_eq_some a1);have al:=List.find?_some a1;rw [ad] at al ⊢;rw [U.inj eB hw (by simpa using al)]
theorem qN.add {A:Nat} {h:Nat→List Int} {vs ws:List Nat} {M:List (List Int×af)} (e7:qN A h vs M) (hw:iT vs ws):qN A h vs (M++[(jL (eM ws),kI (gz A h ws))]):=fun e he=>by
 rcases ac7.1 he with he|he
 ·exact e7 e he
 ·rw [t7.1 he];exact ⟨ws,hw,rfl⟩
def kg (vs:List Nat) (M lE:List (List Int×af)) (k:Nat):Prop:=∀ e∈lE,e∈M∨∃ ws,iT vs ws∧ws.length<k∧e.1=jL (eM ws)
theorem kg.refl (vs:List Nat) (M:List (List Int×af)) (k:Nat):kg vs M M k:=fun _ h => .inl h
theorem kg.trans {vs:List Nat} {M lE Ot:List (List Int×af)} {k k':Nat} (h:kg vs M lE k) (eT:kg vs lE Ot k') (aD:k'≤k):kg vs M Ot k:=fun e he=>by
 rcases eT e he with U|⟨ws,U,ad,al⟩
 ·exact h e U
 ·exact .inr ⟨ws,U,by omega,al⟩
theorem kg.add {vs ws:List Nat} {M lE:List (List Int×af)} {k:Nat} {x:af} (h:kg vs M lE k) (hw:iT vs ws) (aD:ws.length<k):kg vs M (lE++[(jL (eM ws),x)]) k:=fun e he=>by
 rcases ac7.1 he with he|he
 ·exact h e he
 ·rw [t7.1 he];exact .inr ⟨ws,hw,aD,rfl⟩
theorem kg.mono {vs:List Nat} {M lE:List (List Int×af)} {k k':Nat} (h:kg vs M lE k) (aD:k≤k'):kg vs M lE k':=fun e he=>by
 rcases h e he with U|⟨ws,U,ad,al⟩
 ·exact .inl U
 ·exact .inr ⟨ws,U,by omega,al⟩
theorem kg.none {vs ws:List Nat} {M lE:List (List Int×af)} (eB:∀ v∈vs,v<128) (h:kg vs M lE ws.length) (hw:iT vs ws) (a1:M.find? (fun e=>e.1==jL (eM ws))=none):lE.find? (fun e=>e.1==jL (eM ws))=none:=by
 rw [List.find?_eq_none] at a1 ⊢;intro e he;rcases h e he with U|⟨A7,U,ad,al⟩
 ·exact a1 e U
 ·rw [al]
  intro aA;have:=U.inj eB hw ry;rw [this] at ad;exact absurd ad (Nat.lt_irrefl _)
def yl:Option ca→af
 | none => .nh
 | some t=>kI t
theorem ym {ws:List Nat} {u:Nat}:eM ws u=true↔u∈ws:=af8
theorem Zk {vs ws:List Nat} (hw:iT vs ws) (i u:Nat):(eM ws u&&eM (vs.filter fun v=>v.testBit i) u)=eM (fY i ws) u:=by
 rw [ad1,f6,ym,ym,ym,fY,af4,af4];exact ⟨fun h=>⟨h.1,h.2.2⟩,fun h=>⟨h.1,hw.mem h.1,h.2⟩⟩
theorem Zl {vs ws:List Nat} (hw:iT vs ws) (i u:Nat):(eM ws u && !eM (vs.filter fun v=>v.testBit i) u)=eM (fZ i ws) u:=by
 rw [ad1,f6,ag5,ae9,ym,ne_eq,ym,ym,fZ,af4,af4];refine ⟨fun h=>⟨h.1,?_⟩,fun h=>⟨h.1,fun ad=>?_⟩⟩
 ·cases an:u.testBit i with
  | false=>rfl
  | true=>exact absurd ⟨hw.mem h.1,an⟩ h.2
 ·have:=h.2
  rw [ad.2] at this;cases this
theorem Zm {vs:List Nat} {i j v:Nat} (ar:vs[j]? = some v):(fun u=>eM ((vs.take (j+1)).filter fun v=>v.testBit i) u)=(fun u=>eM ((vs.take j).filter fun v=>v.testBit i) u||(v.testBit i&&u==v)):=by
 funext u;rw [ak7,ar,ap5];unfold eM;rw [al2];congr 1;show List.contains (List.filter (fun v=>v.testBit i) [v]) u=_;rw [ai8,ap4];cases v.testBit i with
 | true=>simp;rfl
 | false=>simp
section
variable {P:Program} {N:Nat} {env:Env} {s:ak} {o:Oper}
theorem aW.DK {t yt:TypeId} {x y:Operand} {k:IntKind} {n:Nat} {xs ys:List Int} (gu:rv P t k n) (bp:P.eqGuardType P.depth t=false) (ah:o.op = .binOp .eql t x y yt) (ab:aJ env x=some (jU k xs)) (ax:aJ env y=some (jU k ys)) (U:xs.length=n) (ad:ys.length=n) :
  aW P N o env s (fun v ai=>v = .bool (xs==ys)∧ai=s) (fun _ _=>False):=by
 refine aW.mO iN fun ro B c3 w p aI=>?_
 have b7:=Ae (aI.aJ ab);have bR:=Ae (aI.aJ ax);refine tt (v := .bool (xs==ys)) ah ?_ ?_ (.bool _)
 ·rw [b7,bR]
  unfold eqGuard oF;simp [z2,bp]
 ·rw [b7,bR]
  have:=gu.eq xs ys U ad w;unfold oF at this ⊢;simp only [binOp,z2,this,Result.andThen_ok,Sem.run_pure]
end
section
variable {P:Program} {N:Nat} {ops:Array Oper} {Q:bX→Env→ak→Prop} {env:Env} {s:ak} {l:List Oper} {o:Oper} {d:Nat}
theorem aa.DK {t yt:TypeId} {x y:Operand} {k:IntKind} {n:Nat} {xs ys:List Int} (gu:rv P t k n) (bp:P.eqGuardType P.depth t=false) (au:guardOf ops env o=some true) (av:o.dst=some d) (aY:i9 d N=true) (ah:o.op = .binOp .eql t x y yt) (ab:aJ env x=some (jU k xs)) (ax:aJ env y=some (jU k ys)) (U:xs.length=n) (ad:ys.length=n)
  (h:aa P N ops l Q ((d,.bool (xs==ys))::env) s):aa P N ops (o::l) Q env s:=
 aa.op au av aY (aW.DK gu bp ah ab ax U ad) (fun x ai ⟨U,ad⟩=>by subst U;subst ad;exact h) (fun _ _ h=>h.elim)
end
theorem A8:rv d0 106 .u64 2:=by
 refine ⟨by kernel_rfl,fun e xs ab w=>?_,fun xs ys ab ax w=>?_⟩
 ·obtain ⟨a,b,rfl⟩:=two ab
  kernel_rfl
 ·obtain ⟨a,b,rfl⟩:=two ab
  obtain ⟨c3,aT,rfl⟩:=two ax;have hint:(d0).underlying 104 = some (.int .u64):=by kernel_rfl
  obtain ⟨info,aS⟩:=info_of_underlying hint;have Ah:=L0 (T := 106) (e := 104) (k := .u64) fA aS fA hint (fun a b w=>⟨by kernel_rfl,by kernel_rfl⟩) 9998 a b c3 aT w;have ar:∀ a b:Int,oF .u64 [a,b] = .agg #[.int .u64 a,.int .u64 b]:=fun _ _=>rfl
  rw [ar,ar];unfold Op.equal;exact Ah
theorem Ou:(d0).eqGuardType (d0).depth 106 = false:=by kernel_rfl
def iU (p:bK) (n:Int) (l:List aq) (an cw cd:Nat) (vs:List Nat) (M:List (List Int×af)):a6:=[dU p n (dp l) (.ay 1 (jm vs) .aZ) an cw cd,(.own an,.map (A0 p n l vs)),(.own cw,.map (l1 .u64 M))]
theorem Zn (p:bK) (n:Int) (l:List aq) (an cw cd:Nat) (vs:List Nat) (eB:∀ v∈vs,v<2^l.length) (hK:l.length≤7) (fq:vs.length≤128) (hx:p.methods.length≤16):∀ (k:Nat) (ws:List Nat),ws.length≤k→iT vs ws→∀ M,qN l.length (dA p n l) vs M →
  bz d0 62 [.ptr cd 0,kK (eM ws)] (iU p n l an cw cd vs M) (fun o K=>∃ lE,qN l.length (dA p n l) vs lE∧kg vs M lE (ws.length+1)∧o = .ret (kI (gz l.length (dA p n l) ws))∧K=iU p n l an cw cd vs lE):=by
 have ns:bt=1099511627776:=rfl;have yk:2^l.length≤2^7:=af6 ag hK;have yn:∀ v∈vs,v<128:=fun v h=>by have:=eB v h;omega
 intro k
 induction k using as5 with
 | ind k aX=>
 intro ws aD hw M e7;have jX:=e7.len;have Ia:=YO p n l an cw cd vs yn fq hx (eM ws);rw [hw.self] at Ia;have t':=Hg l.length (dA p n l) ws;have qk:=hw.len;refine bz.bn aj Tryz.func62 C C fun s I=>?_
 unfold iU dU dK dp kK at *;refine ha I ?_;intro I;refine aL.xM aj I (xs:=jL (eM ws)) (es:=M) A8 C C C C C C C C C C jX aV C ?_;cases a1:M.find? (fun e=>e.1==jL (eM ws)) with
 | some e=>
  rw [Option.map_some,e7.find yn hw a1];refine ht ?_;exact Fin.bu I C aM (aH.all _) ⟨M,e7,kg.refl _ _ _,rfl,rfl⟩
 | none=>
 rw [Option.map_none];refine cD ?_;unfold pF dU dK dp at Ia;refine aa.bZ rfl rfl rfl rfl rfl Ia I a7 ?_ (fun _ _ ⟨h,_⟩ _=>by cases h);rintro _ _ ⟨⟨⟩,rfl⟩ I;simp only [d7,t8] at I ⊢;cases a8:qC (dA p n l) ws with
 | true=>
  rw [a8,f9 C] at t';rw [f9 C];refine ha I ?_;intro I;refine aL.Af aj I (xs:=jL (eM ws)) (es:=M) A8 C C C (.inl C) C C C C C C jX aV a1 (fun I=>?_);refine gO ?_;exact Fin.bu (K:=iU p n l an cw cd vs (M++[(jL (eM ws),kI (gz l.length (dA p n l) ws))])) I C aM (by rw [t'];exact (by simp only [iU,dU,dK,dp];exact a7)) ⟨_,e7.add hw,(kg.refl _ _ _).add hw (ak' _),by rw [t'];rfl,rfl⟩
 | false=>
 rw [a8,f0 bc] at t';rw [f0 bc];obtain ⟨abv,A9⟩:=WG (A:=l.length) (h:=dA p n l) (vs:=ws) (fun v h=>eB v (hw.mem h)) a8 (gz l.length (dA p n l));rw [A9,ae7] at t';refine ha I ?_;intro I;refine ae.cl [0,3,50] C I (σ:=Nat×Option ca×List (List Int×af)) (fun q=>[(51,.int .i64 (q.1:Int)),(9,yl q.2.1)]) (fun q=>iU p n l an cw cd vs q.2.2)
  (fun q=>q.1≤l.length∧qN l.length (dA p n l) vs q.2.2∧kg vs M q.2.2 ws.length∧(∀ t,q.2.1=some t→t.leaves≤128)∧(af7 l.length).foldl (lC (gz l.length (dA p n l)) ws) none=(List.range' q.1 (l.length-q.1)).foldl (lC (gz l.length (dA p n l)) ws) q.2.1) (fun q=>l.length-q.1) (0,none,M)
  ⟨g9 _,e7,kg.refl _ _ _,(fun _ h=>by cases h),by rw [List.range_eq_range'];rfl⟩ (cI C) (by simp only [iU,dU,dK,dp];exact a7) ?_
 rintro ⟨i,out,ta⟩ ⟨aS,wL,uG,gh,aw⟩ I;simp only [iU,dU,dK,dp] at aS wL uG gh aw I ⊢;have H8:=kg.none yn uG hw a1;have Zo:=wL.len;refine ck ?_;refine ae.cond C (fun az=>?_) (fun a'=>?_);rotate_left
 ·have a':i=l.length:=by simp at a';omega
  rw [a',Nat.sub_self,List.range'_zero,at4,A9] at aw;subst aw;unfold yl;refine sv I ?_;intro I;refine aL.Af aj I (xs:=jL (eM ws)) (es:=ta) A8 C C C (.inl C) C C C C C C Zo aV H8 (fun I=>?_);refine gO ?_;exact Fin.bu (K:=iU p n l an cw cd vs (ta++[(jL (eM ws),kI (gz l.length (dA p n l) ws))])) I C aM (by rw [t'];exact (by simp only [iU,dU,dK,dp];exact a7)) ⟨_,wL.add hw,(uG.mono (Nat.le_succ _)).add hw (ak' _),by rw [t'],rfl⟩
 have az:i<l.length:=by simpa using az
 rw [show l.length-i=(l.length-(i+1))+1 by omega,List.range'_succ,af0] at aw;have gS:lC (gz l.length (dA p n l)) ws out i=if (fY i ws).isEmpty||(fZ i ws).isEmpty then out else wy out (.test i (gz l.length (dA p n l) (fZ i ws)) (gz l.length (dA p n l) (fY i ws))):=rfl
 repeat (first|(refine Sd I ?_;clear I;intro I)|refine aa.dO aj I rfl rfl rfl rfl rfl rfl rfl (fun cy I=>?_))
 obtain ⟨jl,rfl⟩:∃ x,x=cy:=⟨_,rfl⟩;have Ib:(fun u=>eM ((vs.take 0).filter fun v=>v.testBit i) u)=fun _=>false:=rfl
 refine ae.cl [0,3,50,51,9,10,11,57,58] C I (σ:=Nat) (fun j=>[(59,.int .i64 (j:Int))]) (fun j=>(.own jl,.box 106 [.int .u64 (fH (fun u=>eM ((vs.take j).filter fun v=>v.testBit i) u) 0 64:Nat),.int .u64 (fH (fun u=>eM ((vs.take j).filter fun v=>v.testBit i) u) 64 64:Nat)])::iU p n l an cw cd vs ta) (fun j=>j≤vs.length) (fun j=>vs.length-j) 0 (g9 _) (cI C) (by
  simp only [Ib,AZ (fun _=>rfl),iU,dU,dK,dp]
  exact a7) ?_
 rintro j aO I;simp only [iU,dU,dK,dp] at aO I ⊢;refine ck ?_;refine ae.cond C (fun cU=>?_) (fun a'=>?_)
 ·have cU:j<vs.length:=by simpa [jm] using cU
  obtain ⟨v,ar,oU⟩:=cf (f:=fun v:Nat=>af.int .i64 (v:Int)) cU;have Ic:=yn v (d6 ar);have m7:=Zm (i:=i) ar;have DL:=N9 (fun u=>eM ((vs.take j).filter fun v=>v.testBit i) u) v Ic;unfold kK at DL;unfold jm at I ⊢;refine ej ?_;refine aa.shr _ C C C C C C ag (tH ag) ?_;refine aa.bits _ C C C C C C (Ch (n:=1) (ah9 (Nat.shiftRight_le v i) ag) ag) ?_;refine ga ?_;have pt:=HW v i;cases og:v.testBit i with
  | true=>
   simp only [og,f4] at m7;refine ae.cond C (fun _=>?_) (fun h=>by rw [pt,og] at h;cases h);refine ha I ?_;intro I;exact bF.mk (j+1) I cU cC (by simp only [m7];exact a7) x'
  | false=>
   simp only [og,f7,ak5] at m7;refine ae.cond C (fun h=>by rw [pt,og] at h;cases h) (fun _=>?_);refine gg ?_;exact bF.mk (j+1) I cU cC (by simp only [m7];exact a7) x'
 have a':j=vs.length:=by simp [jm] at a';omega
 subst a';rw [ac'] at I ⊢;have hand:=YA (eM ws) (fun u=>eM (vs.filter fun v=>v.testBit i) u);have Ie:=YB (eM ws) (fun u=>eM (vs.filter fun v=>v.testBit i) u);simp only [Zk hw i,Zl hw i] at hand Ie;unfold kK at hand Ie;refine ae.mn I 11 jl C .here (fun I=>?_);refine sw ?_;refine ae.vw (σ:=Nat×Nat) (fun z=>[(0,.ptr cd 0),(3,.bs [.int .u64 (fH (eM ws) 0 64:Nat),.int .u64 (fH (eM ws) 64 64:Nat)] 0),(50,.int .i64 ((l.map aq.cb).length:Int)),(51,.int .i64 (i:Int)),(9,yl out),(10,.int .i64 (i:Int)),(14,.ptr z.1 0),(15,.ptr z.2 0)]) (fun z=>(.own z.1,.box 106 [.int .u64 (fH (eM (fY i ws)) 0 64:Nat),.int .u64 (fH (eM (fY i ws)) 64 64:Nat)])::(.own z.2,.box 106 [.int .u64 (fH (eM (fZ i ws)) 0 64:Nat),.int .u64 (fH (eM (fZ i ws)) 64 64:Nat)])::iU p n l an cw cd vs ta) (fun _=>True) ?_ ?_
 ·refine ae.qZ aj mixed C (ba.run C ?_)
  refine ba.zj (i:=2) C C C C C C C hand ?_;refine ba.run C ?_;refine ba.zj (i:=5) C C C C C C C Ie ?_;refine ba.run C ?_;refine ba.many C (hH.c (jR.mk (i:=6) C C C C (aW.dO aj I C C C C (X:=fun _ _=>False)) ?_ (fun _ _ h=>h.elim)) (hH.c (jR.mk (i:=7) C C C C (aW.dO aj I C C C C (X:=fun _ _=>False)) ?_ (fun _ _ h=>h.elim)) hH.n))
  ·rintro _ _ ⟨A',rfl,rfl,I⟩
   refine ba.dO 7 aj I C C C C C C C C C (fun qJ I=>?_);refine ba.run C ?_;refine ba.cN 8 aj I C C C C C C C C C C C aV b1 (fun I=>?_);refine ba.run C ?_;refine ba.cN 9 aj I C C C C C C C C C C C aV b1 (fun I=>?_);refine ba.run C ?_;refine ba.done C ?_;exact j4.mk (A',qJ) I trivial (cI C) (by simp only [iU,dU,dK,dp,jm];exact a7)
  ·rintro _ _ ⟨qJ,rfl,rfl,I⟩
   refine ba.dO 6 aj I C C C C C C C C C (fun A' I=>?_);refine ba.run C ?_;refine ba.cN 8 aj I C C C C C C C C C C C aV b1 (fun I=>?_);refine ba.run C ?_;refine ba.cN 9 aj I C C C C C C C C C C C aV b1 (fun I=>?_);refine ba.run C ?_;refine ba.done C ?_;exact j4.mk (A',qJ) I trivial (cI C) (by simp only [iU,dU,dK,dp,jm];exact a7)
 rintro ⟨A',qJ⟩-I;unfold iU dU dK dp at I ⊢;refine ae.mn I 14 A' C .here (fun I=>?_);refine ae.mn I 15 qJ C .here (fun I=>?_);have c':=Oq yn (hw.filter fun v=>v.testBit i);have xf:=Oq yn (hw.filter fun v => !v.testBit i);rw [show ws.filter (fun v=>v.testBit i)=fY i ws from rfl] at c';rw [show ws.filter (fun v => !v.testBit i)=fZ i ws from rfl] at xf;refine j6 ?_;refine aa.DK A8 Ou (xs:=jL (eM (fY i ws))) (ys:=[0,0]) C C C C C C C C ?_;rw [c'];cases DM:(fY i ws).isEmpty with
 | true=>
  rw [gS,DM,al7,f9 C] at aw;refine bG ?_;exact bF.mk (i+1,out,ta) I ⟨az,wL,uG,gh,aw⟩ cC a7 A4
 | false=>
 refine dD ?_;refine aa.DK A8 Ou (xs:=jL (eM (fZ i ws))) (ys:=[0,0]) C C C C C C C C ?_;rw [xf];cases cp:(fZ i ws).isEmpty with
 | true=>
  rw [gS,DM,cp,Bool.or_true,f9 C] at aw;refine bG ?_;exact bF.mk (i+1,out,ta) I ⟨az,wL,uG,gh,aw⟩ cC a7 A4
 | false=>
 rw [gS,DM,cp,f0 bc] at aw;have dj:=C8 (i:=i) (vs:=ws) (by rw [DM,cp];rfl);have abw:=C7 i ws;have Hz:=x5 l.length (dA p n l) _ (fY i ws) (i0 _);have nq:=x5 l.length (dA p n l) _ (fZ i ws) (i0 _);have mK:=fun M h=>aX (fZ i ws).length ag (fZ i ws) (i0 _) (hw.filter fun v => !v.testBit i) M h
 have DN:=fun M h=>aX (fY i ws).length ag (fY i ws) (i0 _) (hw.filter fun v=>v.testBit i) M h
 obtain ⟨Zp,Zq,fn,Ce,-,-⟩:=s3 (gz l.length (dA p n l) (fZ i ws));obtain ⟨ty,fJ,ab2,H9,-,-⟩:=s3 (gz l.length (dA p n l) (fY i ws));simp only [Ce] at mK;simp only [H9] at DN;have Ov:(ca.test i (gz l.length (dA p n l) (fZ i ws)) (gz l.length (dA p n l) (fY i ws))).leaves≤128:=by rw [ca.leaves];omega
 refine di ?_;refine ae.vw (σ:=List (List Int×af)×Nat) (fun z=>[(0,.ptr cd 0),(3,.bs [.int .u64 (fH (eM ws) 0 64:Nat),.int .u64 (fH (eM ws) 64 64:Nat)] 0),(50,.int .i64 ((l.map aq.cb).length:Int)),(51,.int .i64 (i:Int)),(9,yl out),(10,.int .i64 (i:Int)),(16,.ptr z.2 0)]) (fun z=>(.own z.2,.box 156 [.int .i64 (i:Int),.iface Zp Zq,.iface ty fJ])::iU p n l an cw cd vs z.1) (fun z=>qN l.length (dA p n l) vs z.1∧kg vs ta z.1 ws.length) ?_ ?_
 ·refine ae.qZ aj mixed C (ba.run C ?_)
  refine ba.many rfl (hH.c (jR.mk (i:=3) rfl rfl rfl rfl (aW.bZ rfl rfl (mK ta wL) I a7) ?_ (fun x ai h=>by obtain ⟨_,_,_,_,_,_,h,_⟩:=h;cases h)) (hH.c (jR.mk (i:=8) rfl rfl rfl rfl (aW.dO aj I rfl rfl rfl rfl (X:=fun _ _=>False)) ?_ (fun _ _ h=>h.elim)) hH.n))
  ·rintro _ _ ⟨aN,rfl,I,DO,DP,DQ,⟨⟩,rfl⟩
   simp only [d7,t8] at I ⊢;refine ba.run C ?_;refine ba.many rfl (hH.c (jR.mk (i:=6) rfl rfl rfl rfl (aW.bZ rfl rfl (DN DO DP) I a7) ?_ (fun x ai h=>by obtain ⟨_,_,_,_,_,_,h,_⟩:=h;cases h)) (hH.c (jR.mk (i:=8) rfl rfl rfl rfl (aW.dO aj I rfl rfl rfl rfl (X:=fun _ _=>False)) ?_ (fun _ _ h=>h.elim)) hH.n))
   ·rintro _ _ ⟨aN,rfl,I,M2,rL,tb,⟨⟩,rfl⟩
    simp only [d7,t8] at I ⊢;refine ba.run C ?_;refine ba.dO 8 aj I C C C C C C C C C (fun wM I=>?_);refine ba.run C ?_;refine ba.cN 9 aj I C C C C C C C C C C C aV b1 (fun I=>?_);refine ba.run C ?_;refine ba.done C ?_;exact j4.mk (M2,wM) I ⟨rL,(DQ.mono ag).trans tb ag⟩ (cI C) (by simp only [iU,dU,dK,dp,jm];exact a7)
   ·rintro _ _ ⟨wM,rfl,rfl,I⟩
    refine ba.bZ 6 rfl rfl rfl rfl rfl rfl rfl (DN DO DP) I a7 ?_ (fun _ _ al _=>by obtain ⟨_,_,_,h,_⟩:=al;cases h);rintro _ _ ⟨M2,rL,tb,⟨⟩,rfl⟩ I;simp only [d7,t8] at I ⊢;refine ba.run C ?_;refine ba.cN 9 aj I C C C C C C C C C C C aV b1 (fun I=>?_);refine ba.run C ?_;refine ba.done C ?_;exact j4.mk (M2,wM) I ⟨rL,(DQ.mono ag).trans tb ag⟩ (cI C) (by simp only [iU,dU,dK,dp,jm];exact a7)
  ·rintro _ _ ⟨wM,rfl,rfl,I⟩
   refine ba.bZ 3 rfl rfl rfl rfl rfl rfl rfl (mK ta wL) I a7 ?_ (fun _ _ al _=>by obtain ⟨_,_,_,h,_⟩:=al;cases h);rintro _ _ ⟨DO,DP,DQ,⟨⟩,rfl⟩ I;simp only [d7,t8] at I ⊢;refine ba.run C ?_;refine ba.bZ 6 rfl rfl rfl rfl rfl rfl rfl (DN DO DP) I a7 ?_ (fun _ _ al _=>by obtain ⟨_,_,_,h,_⟩:=al;cases h);rintro _ _ ⟨M2,rL,tb,⟨⟩,rfl⟩ I;simp only [d7,t8] at I ⊢;refine ba.run C ?_;refine ba.cN 9 aj I C C C C C C C C C C C aV b1 (fun I=>?_);refine ba.run C ?_;refine ba.done C ?_;exact j4.mk (M2,wM) I ⟨rL,(DQ.mono ag).trans tb ag⟩ (cI C) (by simp only [iU,dU,dK,dp,jm];exact a7)
 rintro ⟨M2,wM⟩ ⟨rL,tb⟩ I;unfold iU dU dK dp at I ⊢;refine ae.mn I 16 wM C .here (fun I=>?_);cases out with
 | none=>
  unfold yl;refine bG ?_;exact bF.mk (i+1,some (.test i (gz l.length (dA p n l) (fZ i ws)) (gz l.length (dA p n l) (fY i ws))),M2) I ⟨az,rL,uG.trans tb (i0 _),(fun t h=>by cases h;exact Ov),aw⟩ Om a7 A4
 | some o=>
  obtain ⟨to,Zr,acr,Ig,-,-⟩:=s3 o;have lf:=WK (.test i (gz l.length (dA p n l) (fZ i ws)) (gz l.length (dA p n l) (fY i ws))) o ag (by have:=gh o C;omega);rw [kI,Ce,H9,Ig] at lf;have vI:wy (some o) (.test i (gz l.length (dA p n l) (fZ i ws)) (gz l.length (dA p n l) (fY i ws)))=if (ca.test i (gz l.length (dA p n l) (fZ i ws)) (gz l.length (dA p n l) (fY i ws))).before o then some (.test i (gz l.length (dA p n l) (fZ i ws)) (gz l.length (dA p n l) (fY i ws))) else some o:=rfl
  rw [vI] at aw;have rP:yl (some o) = .iface to Zr:=Ig;rw [rP];cases kU:(ca.test i (gz l.length (dA p n l) (fZ i ws)) (gz l.length (dA p n l) (fY i ws))).before o with
  | true=>
   rw [kU] at lf;rw [kU,f9 C] at aw;refine cD ?_;exact bF.mk (i+1,some (.test i (gz l.length (dA p n l) (fZ i ws)) (gz l.length (dA p n l) (fY i ws))),M2) I ⟨az,rL,uG.trans tb (i0 _),(fun t h=>by cases h;exact Ov),aw⟩ Om a7 A4
  | false=>
   rw [kU] at lf;rw [kU,f0 bc] at aw;refine cD ?_;exact bF.mk (i+1,some o,M2) I ⟨az,rL,uG.trans tb (i0 _),gh,aw⟩ (by repeat (first|exact trivial|refine ⟨⟨_,rfl,aM⟩,?_⟩|refine ⟨⟨_,rfl,aR.of_eq (by (first|rw [kV ag]|exact Ig.symm))⟩,?_⟩)) a7 A4
def ca.all (P:List Int→Prop):ca→Prop
 | .leaf ms=>P ms
 | .test _ a b=>a.all P∧b.all P
theorem DR {P:List Int→Prop} (A:Nat) (h:Nat→List Int) (bo:P []) (gx:∀ v,P (h v)):∀ (n:Nat) (vs:List Nat),vs.length≤n→(gz A h vs).all P
  | n,vs,aA=>by
    rw [Hg];split
    · rw [ca.all]
      cases vs with
      | nil=>exact bo
      | cons v r=>exact gx v
    · refine MX (Pr:=fun t=>t.all P) (by rw [ca.all];exact bo) (fun _ h=>by cases h) (fun i _ he=>?_)
      have aB:=C8 he;cases n with
      | zero=>omega
      | succ n=>
        rw [ca.all];exact ⟨DR A h bo gx n _ ag,DR A h bo gx n _ ag⟩
theorem Ih:∀ (t:ca) (L:List bJ) (j:Nat) (x:bJ),L.length≤j→(ca.laid L t)[j]? = some x→x.atom≥0→(j:Int)<x.no∧x.no<(ca.laid L t).length∧(j:Int)<x.yes∧x.yes<(ca.laid L t).length
  | .leaf ms,L,j,x,aO,ab,a8=>by
    rw [ca.laid,ad6 aO] at ab;cases h:j-L.length with
    | zero=>rw [h] at ab;cases ab;simp at a8
    | succ n=>rw [h] at ab;cases ab
  | .test i a b,L,j,x,aO,ab,a8=>by
    have U:=s4 a (L++[⟨i,0,0,[]⟩]);have ad:=s4 b (ca.laid (L++[⟨i,0,0,[]⟩]) a);have kB:=a.qF;have CO:=b.qF;have bY:(L++[(⟨i,0,0,[]⟩:bJ)]).length=L.length+1:=by simp
    rw [bY] at U;have Ii:=Ih a (L++[⟨i,0,0,[]⟩]);have Ij:=Ih b (ca.laid (L++[⟨i,0,0,[]⟩]) a);have rK:ca.laid L (.test i a b)=(ca.laid (ca.laid (L++[⟨i,0,0,[]⟩]) a) b).set L.length ⟨i,(L.length:Int)+1,((ca.laid (L++[⟨i,0,0,[]⟩]) a).length:Int),[]⟩:=rfl;rw [rK] at ab ⊢;rw [List.length_set];by_cases xR:j=L.length
    · subst xR
      rw [List.getElem?_set_self ag] at ab;cases ab;simp only;omega
    · rw [List.getElem?_set_ne ag] at ab
      by_cases GN:j<(ca.laid (L++[⟨i,0,0,[]⟩]) a).length
      · rw [AA b _ j GN] at ab
        have:=Ii j x ag ab a8;omega
      · have:=Ij j x ag ab a8
        omega
theorem Ik {P:List Int→Prop} (bo:P []):∀ (t:ca) (L:List bJ),t.all P→(∀ x∈L,P x.ms)→∀ x∈ca.laid L t,P x.ms
  | .leaf ms,L,aK,bY,x,ab=>by
    rw [ca.laid] at ab;rcases ac7.1 ab with ab|ab
    · exact bY x ab
    · rw [t7.1 ab];exact aK
  | .test i a b,L,aK,bY,x,ab=>by
    have rK:ca.laid L (.test i a b)=(ca.laid (ca.laid (L++[⟨i,0,0,[]⟩]) a) b).set L.length ⟨i,(L.length:Int)+1,((ca.laid (L++[⟨i,0,0,[]⟩]) a).length:Int),[]⟩:=rfl;rw [rK] at ab;rcases List.mem_or_eq_of_mem_set ab with ab|rfl
    · refine Ik bo b _ aK.2 (Ik bo a _ aK.1 (fun y ax=>?_)) x ab
      rcases ac7.1 ax with ax|ax
      · exact bY y ax
      · rw [t7.1 ax];exact bo
    · exact bo
theorem Ow {t:ca} (aK:t.all (fun ms=>ms.length≤16)) (aB:t.leaves≤500):rM (ca.laid [] t):=by
 have U:=s4 t [];have ad:=t.qF;rw [ae1] at U;exact ⟨by omega,by omega,Ik (P:=fun ms=>ms.length≤16) bc t [] aK (fun _ h=>by cases h),fun i x ab a8=>Ih t [] i x (g9 _) ab a8⟩
theorem Zs {g:List bJ} (h:je g=true):rM g:=by
 obtain ⟨U,ad⟩:=zQ h;refine ⟨U,by omega,fun x ab=>?_,fun i x ab a8=>?_⟩
 ·obtain ⟨i,aS⟩:=ag7 ab
  have aA:=vP h aS;by_cases a8:x.atom = -1
  ·exact ((sM a8).1 aA).2.2.1
  ·have:=((oA a8).1 aA).2.2.2.2.2.2
   omega
 ·have:=(oA ag).1 (vP h ab)
  omega
theorem Zt (g:List bJ) (au:g.length<bt):aU d0 20 [iq g] (.cg [if je g then .ay 4 ((small g).map eS) .aZ else .ay 0 [] .nil,.int .i64 (if je g then 0 else 2)]):=by
 have an:=bC;refine aU.bn aj Tryz.func20 C C fun s I=>?_
 have a1:=F0 g au;unfold iq at *;cases lZ:je g with
 | false=>
  rw [lZ] at a1;rw [f0 bc,f0 bc];refine cD ?_;exact bA I
 | true=>
  rw [lZ] at a1;rw [f9 C,f9 C];have ao:=Nd g (Zs lZ);refine cD ?_;refine aa.bZ rfl rfl rfl rfl rfl ao I .nil ?_ (fun _ _ ⟨h,_⟩ _=>by cases h);rintro _ _ ⟨⟨⟩,rfl⟩ I;simp only [d7] at I ⊢;refine dY ?_;exact bA I
def DS (p:bK) (n:Int):af := .cg [if eK p n=0 then .ay 4 ((small (ca.laid [] (wz p n))).map eS) .aZ else .ay 0 [] .nil,.int .i64 (eK p n)]
theorem Il (p:bK) (aE:fD p) (n:Int):aU d0 13 [cW p,.int .i64 n] (DS p n):=by
 have an:=bC;refine aU.bn aj Tryz.func13 C C fun s I=>?_
 have a8:=AQ p aE n;unfold DS;unfold cW cV at *;refine dz ?_;refine aa.bZ rfl rfl rfl rfl rfl a8 I .nil ?_ (fun _ _ h _=>by rcases h with ⟨_,_,_,_,h,_⟩|⟨_,⟨_,h⟩,_⟩<;>cases h);rintro _ _ (⟨he,cd,an,cw,⟨⟩,rfl⟩|⟨he,⟨v,⟨⟩⟩,rfl⟩) I
 ·rw [he,f9 C,C9]
  obtain ⟨eL,hK,dP,e2,gE⟩:=rU he;have yk:2^(cF p n).length≤2^7:=af6 ag hK;have k4:=HY p aE eL n (cF p n) an cw cd hK dP e2 gE;have fq:=A1 (b3 p) (cF p n);have eB:∀ v∈hA (b3 p) (cF p n),v<2^(cF p n).length:=fun v h=>Od h
  have yg:=(wI eL).1;generalize bY:cF p n=l at *;generalize yo:hA (b3 p) l=vs at *;have A9:=Zn p n l an cw cd vs eB hK ag yg vs.length vs (i0 _) (iT.all vs) [] (fun _ h=>by cases h);have qT:=x5 l.length (dA p n l) _ vs (i0 _);have Im:=DR (P:=fun ms=>ms.length≤16) l.length (dA p n l) bc (fun v=>by have:=AU n l v p.methods 0;unfold dA;omega) _ vs (i0 _);generalize gz l.length (dA p n l) vs=t at *;have Ox:=WL t [] none C cO;have vg:=Ow Im ag;have Zu:=Nd _ vg;simp only [t8,d7] at I ⊢;unfold dU dK dp at *;refine bG ?_;refine aa.bZ rfl rfl rfl rfl rfl k4 I a7 ?_ (fun _ _ ⟨h,_⟩ _=>by cases h);rintro _ _ ⟨⟨⟩,rfl⟩ I;simp only [t8,d7] at I ⊢
  repeat (first|(refine Se I ?_;clear I;intro I)|refine aa.dO aj I rfl rfl rfl rfl rfl rfl rfl (fun cy I=>?_))
  obtain ⟨Zv,rfl⟩:∃ x,x=cy:=⟨_,rfl⟩;have Ib:eM (vs.take 0)=fun _=>false:=rfl
  refine ae.cl [6,8,27,28] C I (σ:=Nat) (fun j=>[(29,.int .i64 (j:Int))]) (fun j=>(.own Zv,.box 106 [.int .u64 (fH (eM (vs.take j)) 0 64:Nat),.int .u64 (fH (eM (vs.take j)) 64 64:Nat)])::iU p n l an cw cd vs []) (fun j=>j≤vs.length) (fun j=>vs.length-j) 0 (g9 _) (cI C) (by
   simp only [Ib,AZ (fun _=>rfl),iU,dU,dK,dp]
   exact a7) ?_
  rintro j aO I;simp only [iU,dU,dK,dp,jm] at aO I ⊢;refine ck ?_;refine ae.cond C (fun az=>?_) (fun a'=>?_)
  ·have az:j<vs.length:=by simpa using az
   obtain ⟨v,ar,oU⟩:=cf (f:=fun v:Nat=>af.int .i64 (v:Int)) az;have Ic:v<128:=by have:=eB v (d6 ar);omega
   have DL:=N9 (eM (vs.take j)) v Ic;have fi:(fun u=>eM (vs.take j) u||u==v)=eM (vs.take (j+1)):=by
    funext u;rw [ak7,ar];unfold eM;rw [al2];congr 1;simp;rfl
   rw [fi] at DL;unfold kK at DL;refine ha I ?_;intro I;exact bF.mk (j+1) I az cC a7 x'
  have a':j=vs.length:=by simp at a';omega
  subst a';rw [ac'] at I ⊢;unfold iU dU dK dp kK jm at A9;unfold jK jk at Ox;refine cm I ?_;intro I;refine aa.bZ rfl rfl rfl rfl rfl A9 I a7 ?_ (fun _ _ h _=>by obtain ⟨_,_,_,h,_⟩:=h;cases h);rintro _ _ ⟨lE,-,-,⟨⟩,rfl⟩ I;simp only [t8,d7] at I ⊢;skip;refine aa.bZ rfl rfl rfl rfl rfl Ox I .nil ?_ (fun _ _ h _=>by obtain ⟨_,_,h,_⟩:=h;cases h);rintro _ _ ⟨bx,dj,⟨⟩,rfl⟩ I;have qd:=s4 t [];have oy:=t.qF;rcases bx with _|⟨g2,f',fM⟩
  ·have bo:ca.laid [] t=[]:=dj
   rw [bo] at qd;simp at qd;omega
  obtain ⟨fg,gf,hg⟩:=dj;simp only [t8,d7] at I ⊢;refine aa.run aj C ?_;refine aa.nil ?_;refine sw ?_;refine ae.HG I 11 g2 C aV hg (by rw [f5]) (oM _) gf (by have:=vg.len;omega) (fun I=>?_);rw [← Dk];refine j6 ?_;refine aa.bZ rfl rfl rfl rfl rfl Zu I .nil ?_ (fun _ _ ⟨h,_⟩ _=>by cases h);rintro _ _ ⟨⟨⟩,rfl⟩ I;simp only [t8,d7] at I ⊢;refine dY ?_;exact bA I
 ·rw [f0 he]
  simp only [d7] at I ⊢;refine dT ?_;refine ae.cond C (fun _=>?_) (fun h=>absurd gT he);refine gO ?_;exact bA I
def rV (c:Int):aq := .mk 2 0 [] c 0 []
def lF:bK:=⟨[⟨[],[],[]⟩,⟨[3],[],[]⟩,⟨[],[],[]⟩],0,[1],[⟨1,0,rV 3,0⟩,⟨1,0,rV 4,1⟩,⟨1,0,.mk 6 0 [] 0 0 [rV 1,.mk 3 0 [] 0 5 []],2⟩],[⟨2,0,[]⟩,⟨2,0,[]⟩,⟨2,0,[]⟩,⟨2,0,[]⟩],3⟩
def oP:List bJ:=[⟨0,1,4,[]⟩,⟨3,2,3,[]⟩,⟨-1,0,0,[]⟩,⟨-1,0,0,[2]⟩,⟨1,5,6,[]⟩,⟨-1,0,0,[0]⟩,⟨-1,0,0,[0,1]⟩]
theorem Oy:eK lF 0=0:=by kernel_rfl
theorem Zw:hA (b3 lF) (cF lF 0)=[0,1,3,4,12]:=by kernel_rfl
theorem Zx:A2 lF 0 3=0:=by kernel_rfl
theorem Zy:dA lF 0 (cF lF 0) 3=[0,1]:=by kernel_rfl
theorem Zz:A2 lF 0 2=5:=by kernel_rfl
theorem ZA:small (ca.laid [] (wz lF 0))=oP:=by kernel_rfl
theorem ZB:uF lF [] 0 [(1,4)] oP=0:=by kernel_rfl
theorem ZC:leads oP (A5 lF [] 0 [(1,4)])=(3,2):=by kernel_rfl
theorem ZD:j7 oP=2:=by kernel_rfl
theorem ZE:je oP=true:=by kernel_rfl
theorem ZF:small [⟨0,1,2,[]⟩,⟨-1,0,0,[]⟩,⟨-1,0,0,[]⟩]=[⟨0,1,1,[]⟩,⟨-1,0,0,[]⟩]:=by kernel_rfl
theorem ZG:je [⟨0,1,2,[]⟩,⟨-1,0,0,[]⟩,⟨-1,0,0,[]⟩]=true:=by kernel_rfl
theorem DT (c:Int):aU d0 50 [.int .i64 c] ((rV c).cb):=by
 have an:=bC;refine aU.bn aj Tryz.func50 C C fun s I=>?_
 rw [aq.cE];unfold rV aq.cells
 repeat (first|(refine Sf I ?_;clear I;intro I)|refine aa.dO aj I rfl rfl rfl rfl rfl rfl rfl (fun cy I=>?_))
 refine Fin.cL I (pc C C (bl.get aV I) C) ?_
 repeat (first|exact aM|exact aR.empty|exact aR.aZ|refine aR.agg ?_|refine aR.ay ?_|exact cM.nil|refine cM.cons ?_ ?_)
theorem ZH (u:Unit):aU d0 67 [] (iq oP):=by
 have an:=bC;refine aU.bn aj Tryz.func67 C C fun s I=>?_
 unfold iq;refine gO ?_;refine Fin.cL I C ?_;unfold oP;simp only [ac0,ae3,eS,hy,bk,bb]
 repeat (first|exact aM|exact aR.empty|exact aR.aZ|refine aR.agg ?_|refine aR.ay ?_|exact cM.nil|refine cM.cons ?_ ?_)
theorem ZI (u:Unit):aU d0 51 [] (cW lF):=by
 have an:=bC;refine aU.bn aj Tryz.func51 C C fun s I=>?_
 have U:=DT 1;have al:=DT 3;have bd:=DT 4;rw [aq.cE] at U al bd;unfold aq.cells at U al bd
 repeat (first|(refine Sg I ?_;clear I;intro I)|refine aa.dO aj I rfl rfl rfl rfl rfl rfl rfl (fun cy I=>?_)|(refine Sh I ?_;clear I;intro I))
 refine Fin.cL I (pc C C (bl.get aV I) C) ?_;unfold lF cW cV;simp only [ac0,ae3,jf,oz,gI,lv,gj,kA,bk,bb,aq.path,aq.op,aq.arg,aq.cls,aq.n,aq.kids,aq.cE,aq.cells,rV]
 repeat (first|exact aM|exact aR.empty|exact aR.aZ|refine aR.agg ?_|refine aR.ay ?_|exact cM.nil|refine cM.cons ?_ ?_)
theorem Ba:fD lF:=⟨by decide,by decide,by decide,by decide,by decide,by decide,by decide⟩
theorem ZJ (u:Unit):aU d0 16 [] (.bool true):=by
 have an:=bC;have U:=ZI ();have ad:=H5 lF Ba 0;have al:=Of lF Ba 0 3;have bd:=Of lF Ba 0 2;have bB:=Il lF Ba 0;have gN:=Zi lF Ba 0 [] [(1,4)] dE (fun _ h=>by cases h) dE oP dE;have hn:=To oP dE;have pq:=Zt [⟨0,1,2,[]⟩,⟨-1,0,0,[]⟩,⟨-1,0,0,[]⟩] dE;have dZ:=ZH ();have s1:=zB [0,1,3,4,12] [0,1,3,4,12] dE dE;have s2:=zB [0,1] [0,1] dE dE;have ZK:=zB [2] [2] dE dE;have g1:=K7 oP oP dE dE dE dE;have g2:=K7 [⟨0,1,1,[]⟩,⟨-1,0,0,[]⟩] [⟨0,1,1,[]⟩,⟨-1,0,0,[]⟩] dE dE dE dE;unfold DH at ad;rw [Oy,f9 C,Zw] at ad;unfold H4 at al bd;rw [Zx,f9 C,show ((3:Int).toNat)=3 from rfl,Zy] at al;rw [Zz,f0 dE] at bd;unfold DS at bB;rw [Oy,f9 C,ZA] at bB;unfold H' at gN;rw [ZB,f9 C,f9 C,ZC] at gN;rw [ZE,f9 C,f9 C,ZD] at hn;rw [ZG,f9 C,f9 C,ZF] at pq;rw [show (([0,1,3,4,12]:List Int)==[0,1,3,4,12])=true from rfl] at s1;rw [show (([0,1]:List Int)==[0,1])=true from rfl] at s2;rw [show (([2]:List Int)==[2])=true from rfl] at ZK;rw [show (oP==oP)=true from rfl] at g1;rw [show (([⟨0,1,1,[]⟩,⟨-1,0,0,[]⟩]:List bJ)==[⟨0,1,1,[]⟩,⟨-1,0,0,[]⟩])=true from rfl] at g2;refine aU.bn aj Tryz.func16 C C fun s I=>?_
 unfold cW cV at *;refine fP ?_;refine aa.iO C C C C C s1 (.cons (aR.of_eq C) (.one aR.aZ)) ?_;refine dD ?_;refine aa.iO C C C C C s2 (.cons (aR.of_eq C) (.one aR.aZ)) ?_;refine p6 ?_;refine aL.iO C C C C C gN (.cons aM (.cons aR.empty (.cons aM (.cons aR.aZ (.one aM))))) ?_;refine di ?_
 refine aa.iO C C C C C pq (.one (by
  unfold iq
  simp only [ac0,ae3,eS,hy,bk,bb]
  repeat (first|exact aM|exact aR.empty|exact aR.aZ|refine aR.agg ?_|refine aR.ay ?_|exact cM.nil|refine cM.cons ?_ ?_))) ?_
 refine di ?_
 refine aa.iO C C C C C g2 (.cons (aR.of_eq C) (.one (by
  unfold iq
  simp only [ac0,ae3,eS,hy,bk,bb]
  repeat (first|exact aM|exact aR.empty|exact aR.aZ|refine aR.agg ?_|refine aR.ay ?_|exact cM.nil|refine cM.cons ?_ ?_)))) ?_
 refine dY ?_;exact bA I
theorem ZL {g:List bJ} (au:rM g):(small g).length≤1000∧∀ x∈small g,x.ms.length≤16:=by
 have rp:=au.pos;have nL:=au.len;have Dl:=Xr au;obtain ⟨Xh,lW⟩:=s5 g 0;obtain ⟨a0,ZM,-,Xt⟩:=HD au (b:=0) ag;have yc:small g=(meet (c2 0 g).2 (g.length+1) [] a0).reverse.map (na (c2 0 g).2 (meet (c2 0 g).2 (g.length+1) [] a0)):=by
  unfold small;simp only [d5,ZM,ae7];rfl
 have Dm:nW g.length []:=⟨List.nodup_nil,fun _ h=>by cases h⟩;have Dn:=(wB Dl (g.length+1) a0 ag ag [] (by rw [lW];exact Dm)).1;have aB:=Dn.len;rw [yc];refine ⟨by rw [f5,List.length_reverse];omega,fun x ab=>?_⟩;obtain ⟨z,-,rfl⟩:=ad2.1 ab;have key:((c2 0 g).2.getD z.toNat default).ms.length≤16:=by
  rw [d5];cases h:(c2 0 g).2[z.toNat]? with
  | none=>exact g9 _
  | some y=>
   obtain ⟨w,m6,yd⟩:=Dg g 0 _ y h;rw [ae7,yd];exact au.ms w m6
 unfold na;simp only;split
 ·exact key
 ·exact key
theorem ZN (a b:aq) (a8:a.kids=[]) (dF:b.kids=[]) (M0:a.path.length<bt) (eL:b.path.length<bt):aU d0 84 [a.cb,b.cb] (.bool (gL a b)):=by
 have an:=bC;refine aU.bn aj Tryz.func84 C C fun s I=>?_
 obtain ⟨o,x,p,c,n,ks⟩:=a;obtain ⟨o',n5,bg,nA,n',Cl⟩:=b;simp only [aq.kids] at a8 dF;subst a8;subst dF;have U:=zB p bg M0 eL;have he:gL (.mk o x p c n []) (.mk o' n5 bg nA n' [])=(decide (o=o')&&(decide (x=n5)&&(decide (c=nA)&&(decide (n=n')&&p==bg)))):=rfl;simp only [aq.cE,aq.cells,aq.op,aq.arg,aq.path,aq.cls,aq.n,aq.kids,ae3];unfold bk bb at U;cases ao:decide (o=o')&&(decide (x=n5)&&(decide (c=nA)&&(decide (n=n')&&p==bg))) with
 | false=>
  rw [he,ao];clear he
  repeat' (first|(with_reducible first|apply ae.seq|apply b0|apply fW|apply ae.ret|apply ae.skip|apply ae.block)|refine c1 C ?_|refine ae.cA ?_|refine aa.nil ?_|refine ae.fL C ?_|refine ae.gA C ?_|refine cx C ?_|refine aa.skip C C C ?_|refine aa.dX C C C C C cq ?_|(fail_if_success refine aa.same true C ?_);(fail_if_success refine aa.same false C ?_);refine aa.hq C C (fun h=>?_) (fun h=>?_))
  all_goals (try (refine Fin.cL I C ?_;exact aM))
  all_goals (exfalso;clear I;grind)
 | true=>
  rw [he,ao];simp only [f6,g8,aj1] at ao;obtain ⟨rfl,rfl,rfl,rfl,rfl⟩:=ao;rw [show (p==p)=true from beq_iff_eq.2 C] at U;refine dz ?_;refine aa.dc 11 C bc ?_;refine dD ?_;refine aa.dc 18 C bc ?_;refine dD ?_;refine aa.dc 25 C bc ?_;refine dD ?_;refine aa.dc 32 C bc ?_;refine cD ?_;refine ae.cl [51] C I (σ:=Nat) (fun j=>[(52,.int .i64 (j:Int))]) (fun _=>[]) (fun j=>j=0) (fun j=>0) 0 C (cI C) .nil ?_;rintro j rfl I
  try simp only at I ⊢
  refine bG ?_;exact bA I
theorem ZO (x y:bJ) (ab:x.ms.length<bt) (ax:y.ms.length<bt):aU d0 95 [eS x,eS y] (.bool (x==y)):=by
 have an:=bC;refine aU.bn aj Tryz.func95 C C fun s I=>?_
 have U:=tM x.ms y.ms ab ax;have he:(x==y)=(decide (x.atom=y.atom)&&(decide (x.no=y.no)&&(decide (x.yes=y.yes)&&x.ms==y.ms))):=by
  obtain ⟨a,b,c,d⟩:=x;obtain ⟨c3,aT,nA,cX⟩:=y;rw [ad1];simp
 unfold eS hy bk at *
 repeat' (first|(with_reducible first|apply ae.seq|apply b0|apply ae.ret)|refine c1 C ?_|refine ae.cA ?_|refine aa.nil ?_|refine cx C ?_|refine aa.skip C C C ?_|refine aa.dX C C C C C cq ?_|(fail_if_success refine aa.same true C ?_);(fail_if_success refine aa.same false C ?_);refine aa.hq C C (fun h=>?_) (fun h=>?_))
 all_goals (refine Fin.cL I C (aR.of_eq (ac5 af.bool ?_));rw [he];clear I U he;grind)
def qO (p:bK) (n:Int):List bJ:=small (ca.laid [] (wz p n))
def yp (p q:bK) (n k:Int):Bool:=
 decide (eK p n=eK q k)&&(decide (eK p n≠0)||(kc gL (cF p n) (cF q k)&&(hA (b3 p) (cF p n)==hA (b3 q) (cF q k)&&kc (fun x y=>x==y) (qO p n) (qO q k))))
theorem ZP {p:bK} (n:Int) (he:eK p n=0):rM (ca.laid [] (wz p n)):=by
 rw [C9];obtain ⟨eL,hK,dP,e2,gE⟩:=rU he;have yk:2^(cF p n).length≤2^7:=af6 ag hK;have fq:=A1 (b3 p) (cF p n);have qT:=x5 (cF p n).length (dA p n (cF p n)) _ (hA (b3 p) (cF p n)) (i0 _);have Im:=DR (P:=fun ms=>ms.length≤16) (cF p n).length (dA p n (cF p n)) bc (fun v=>by have:=AU n (cF p n) v p.methods 0;have:=(wI eL).1;unfold dA;omega) _ (hA (b3 p) (cF p n)) (i0 _);exact Ow Im ag
theorem Oz {p:bK} (n:Int) (he:eK p n=0):(qO p n).length≤1000∧∀ x∈qO p n,x.ms.length≤16:=ZL (ZP n he)
theorem OA (l:List Nat):(l.map fun v:Nat=>af.int .i64 (v:Int))=(l.map fun v:Nat=>(v:Int)).map bb:=by rw [List.map_map];rfl
theorem OB:∀ l m:List Nat,((l.map fun v:Nat=>(v:Int))==(m.map fun v:Nat=>(v:Int)))=(l==m)
  | [],[]=>rfl
  | [],_::_=>rfl
  | _::_,[]=>rfl
  | a::l,b::m=>by
    rw [ac0,ac0,ap8,ap8,OB l m];congr 1;rw [ad1];simp;omega
theorem OC (p q:bK) (aE:fD p) (bp:fD q) (n k:Int):aU d0 46 [cW p,cW q,.int .i64 n,.int .i64 k] (.bool (yp p q n k)):=by
  have an:=bC;refine aU.bn aj Tryz.func46 C C fun s I=>?_
  have dm:=Oe p aE n;have a2:=Oe q bp k;have a3:=H5 p aE n;have a4:=H5 q bp k;have a5:=Il p aE n;have yq:=Il q bp k;unfold H2 at dm a2;unfold DH at a3 a4;unfold DS at a5 yq;unfold yp;have Io:aU d0 37 [.ay 1 [] .aZ,.ay 1 [] .aZ] (.bool true):=tM [] [] dE dE;have DU:aU d0 94 [.ay 6 [] .aZ,.ay 6 [] .aZ,.func 84 [] []] (.bool true):=
    F' (.func 84 [] []) gL [] [] dE dE (fun _ h=>by cases h)
  have OD:aU d0 56 [.ay 4 [] .aZ,.ay 4 [] .aZ,.func 95 [] []] (.bool true):=
    K8 (.func 95 [] []) (fun x y=>x==y) [] [] dE dE (fun _ h=>by cases h)
  unfold cW cV at *;by_cases bo:eK p n=0
  · by_cases U:eK q k=0
    · obtain ⟨hK,dP⟩:(cF p n).length≤7∧iS (b3 p) (cF p n):=⟨(rU bo).2.1,(rU bo).2.2.1⟩
      obtain ⟨ZQ,qm⟩:(cF q k).length≤7∧iS (b3 q) (cF q k):=⟨(rU U).2.1,(rU U).2.2.1⟩;have m6:2^(cF p n).length≤2^7:=af6 ag hK;have yd:2^(cF q k).length≤2^7:=af6 ag ZQ;have sj:=A1 (b3 p) (cF p n);have oY:=A1 (b3 q) (cF q k);obtain ⟨g1,g2⟩:=Oz n bo;obtain ⟨g3,g4⟩:=Oz k U
      have a1:=F' (.func 84 [] []) gL (cF p n) (cF q k) ag ag (fun x ab y ax=>by
        have ab1:=uB (dP x ab).1 (dP x ab).2
        have ZR:=AW (dP x ab).1 (dP x ab).2
        have wN:=uB (qm y ax).1 (qm y ax).2
        have wO:=AW (qm y ax).1 (qm y ax).2
        exact ee.fa (first:=[]) (cap:=[]) (ZN x y ZR wO ag ag))
      have ao:=tM ((hA (b3 p) (cF p n)).map fun v:Nat=>(v:Int)) ((hA (b3 q) (cF q k)).map fun v:Nat=>(v:Int)) m9 m9;have au:=K8 (.func 95 [] []) (fun x y=>x==y) (qO p n) (qO q k) ag ag (fun x ab y ax=>ee.fa (first:=[]) (cap:=[]) (ZO x y (by have:=g2 x ab;omega) (by have:=g4 y ax;omega)));rw [OB] at ao;unfold bk at ao;rw [← OA,← OA] at ao;rw [bo,f9 C] at dm a3 a5;rw [U,f9 C] at a2 a4 yq;unfold dp at dm a2;unfold jm at a3 a4;change aU _ _ _ (.cg [.ay 4 ((qO p n).map eS) .aZ,.int .i64 0]) at a5;change aU _ _ _ (.cg [.ay 4 ((qO q k).map eS) .aZ,.int .i64 0]) at yq;rw [show decide (eK p n=eK q k)=true from by rw [bo,U];rfl,show decide (eK p n≠0)=false from by rw [bo];rfl,f4,af1];clear Io DU OD;cases b7:kc gL (cF p n) (cF q k) with
      | false=>
        rw [b7] at a1;refine cD ?_;exact bA I
      | true=>
      rw [b7] at a1;cases bR:hA (b3 p) (cF p n)==hA (b3 q) (cF q k) with
      | false=>
        rw [bR] at ao;refine cD ?_;exact bA I
      | true=>
      rw [bR] at ao;refine cD ?_;exact bA I
    · rw [bo,f9 C] at dm a3 a5
      rw [f0 U] at a2 a4 yq;rw [show decide (eK p n=eK q k)=false from H1 (by rw [bo];exact fun h=>U h.symm),f7];unfold dp at dm;unfold jm at a3;generalize eK q k=e at *;generalize small (ca.laid [] (wz p n))=G at *;generalize cF p n=A at *;generalize hA (b3 p) A=V at *;have he:(0==e)=false:=by rw [beq_eq_false_iff_ne];exact fun h=>U h.symm
      refine cD ?_;refine aa.dc 60 C he ?_;refine dT ?_;exact bA I
  · by_cases U:eK q k=0
    · rw [U,f9 C] at a2 a4 yq
      rw [f0 bo] at dm a3 a5;rw [show decide (eK p n=eK q k)=false from H1 (by rw [U];exact bo),f7];unfold dp at a2;unfold jm at a4;generalize eK p n=e at *;generalize small (ca.laid [] (wz q k))=G at *;generalize cF q k=A at *;generalize hA (b3 q) A=V at *;have he:(e==0)=false:=by rw [beq_eq_false_iff_ne];exact bo
      refine cD ?_;refine aa.dc 60 C he ?_;refine dT ?_;exact bA I
    · rw [f0 bo] at dm a3 a5
      rw [f0 U] at a2 a4 yq;rw [show decide (eK p n≠0)=true from i6 bo,al7,am8];generalize eK p n=e at *;generalize eK q k=f at *;by_cases Ip:e=f
      · subst Ip
        have he:(e==e)=true:=beq_iff_eq.2 C;rw [i6 C];refine cD ?_;refine aa.dW 60 C he ?_;refine dD ?_;refine aa.dW 65 C he ?_;refine dD ?_;refine aa.dW 70 C he ?_;refine dD ?_;refine aa.iO C C C C C DU (.cons aR.empty (.cons aR.empty (.one aM))) ?_;refine dD ?_;refine aa.iO C C C C C Io (.cons aR.empty (.one aR.empty)) ?_;refine dD ?_;refine aa.iO C C C C C OD (.cons aR.empty (.cons aR.empty (.one aM))) ?_;refine dY ?_;exact bA I
      · have he:(e==f)=false:=by rw [beq_eq_false_iff_ne];exact Ip
        rw [H1 Ip];refine cD ?_;refine aa.dc 60 C he ?_;refine dT ?_;exact bA I
def yr (w:bw) (L:List ch):Prop:=L.length<4096∧nP w L
theorem yr.at {w:bw} {L:List ch} (h:yr w L) {x:ch} (ab:x∈L):x.1.c7=true∧x.1.path.length≤2 ∧ -1000000000≤x.1.n∧x.1.n≤1000000000∧(x.1.op=2→0≤x.1.cls∧x.1.cls<3+(w.ps.length:Int)):=by
 obtain ⟨aA,aB⟩:=h.2 x ab;refine ⟨aB,(CV aA aB).1,?_⟩;simp only [hi,aB,ae2,f6,g8] at aA;have ad:=aA.2.2.2.2.2.2.2;unfold j8 at ad;by_cases al:x.1.op=2
 ·rw [f9 al] at ad
  simp only [f6,g8] at ad;exact ⟨by omega,by omega,fun _=>ad.2⟩
 ·rw [f0 al] at ad
  simp only [f6,g8] at ad;exact ⟨by omega,by omega,fun h=>absurd h al⟩
theorem yr.on {w:bw} {L:List ch} (h:yr w L) (arg:Int) (path:List Int):yr w (gy L arg path):=
 ⟨ah9 (aj0 _ _) h.1,fun x ab=>h.2 x (af4.1 ab).1⟩
theorem Iq {a b:Int} {p q:List Int} (aE:p.length≤2) (bp:q.length≤2) (h:bq a p=bq b q):a=b∧p=q:=by
 unfold bq at h;simp only [List.cons.injEq,and_true] at h;obtain ⟨U,ad,al,bd⟩:=h;refine ⟨U,?_⟩
 match p,q,aE,bp with
 | [],[],_,_=>rfl
 | [x],[y],_,_=>simp at al;rw [al]
 | [x,n5],[y,MU],_,_=>simp at al bd;rw [al,bd]
 | [],[_],_,_=>simp at ad
 | [],[_,_],_,_=>simp at ad
 | [_],[],_,_=>simp at ad
 | [_],[_,_],_,_=>simp at ad
 | [_,_],[],_,_=>simp at ad
 | [_,_],[_],_,_=>simp at ad
def de.core (k:de):de:={ k with gb:=false,bj:=[] }
theorem ZS (k:de) (b:Bool):(k.need b).core=k.core:=rfl
theorem OE (k:de) (s:Int):(k.slot s).core=k.core:=rfl
theorem ZT (k:de) (x:ch):(k.ask x).core=k.core.ask x:=by
 unfold de.ask de.core
 repeat' split
 all_goals rfl
theorem ZU (k:de) (x:ch):(k.ask x).gb=k.gb:=by
 unfold de.ask
 repeat' split
 all_goals rfl
theorem tc (σ:dJ) (sp:List Int) (k:de) (q:List Int):(σ.hJ sp k) q=if q=sp then k else σ q:=rfl
theorem yu (neg:Bool) (arg:Int) (path:List Int):∀ (j:Nat) (σ:dJ) (q:List Int),((gJ neg arg path j σ) q).core=(σ q).core
  | 0,σ,q=>by
    rw [gJ,tc];split
    · rename_i h;subst h;rfl
    · rfl
  | j+1,σ,q=>by
    rw [gJ];simp only [tc];by_cases U:q=bq arg (path.take (j+1))
    · rw [f9 U,ZS]
      split
      · rename_i ad;rw [OE,yu,U,ad]
      · rw [yu,U]
    · rw [f0 U]
      split
      · rename_i ad;rw [OE,yu,ad]
      · rw [yu]
theorem OF (neg:Bool) (arg:Int) (path:List Int) (q:List Int):∀ (j:Nat) (σ:dJ),(((gJ neg arg path j σ) q).gb=true↔(σ q).gb=true∨neg=false∧∃ i,i≤j∧q=bq arg (path.take i))
  | 0,σ=>by
    rw [gJ,tc];by_cases h:q=bq arg []
    · rw [f9 h]
      unfold de.need;simp only [ag9,ag5];rw [h];constructor
      · rintro (U|U)
        · exact .inl U
        · exact .inr ⟨U,0,i0 _,by simp⟩
      · rintro (U|⟨U,_⟩)
        · exact .inl U
        · exact .inr U
    · rw [f0 h]
      constructor
      · exact .inl
      · rintro (U|⟨_,i,aS,U⟩)
        · exact U
        · exact absurd (by rw [U,show i=0 by omega];simp) h
  | j+1,σ=>by
    have aX:=OF neg arg path q j σ;rw [gJ];simp only [tc];by_cases h:q=bq arg (path.take (j+1))
    · rw [f9 h]
      unfold de.need;simp only [ag9,ag5];have e:∀ k:de,(k.slot (path.getD j 0)).gb=k.gb:=fun k=>rfl
      have:(if bq arg (path.take (j+1))=bq arg (path.take j) then ((gJ neg arg path j σ) (bq arg (path.take j))).slot (path.getD j 0) else (gJ neg arg path j σ) (bq arg (path.take (j+1)))).gb=((gJ neg arg path j σ) q).gb:=by
        split
        · rename_i ad;rw [e,h,ad]
        · rw [h]
      rw [this,aX];constructor
      · rintro ((U|⟨U,i,aS,ad⟩)|U)
        · exact .inl U
        · exact .inr ⟨U,i,by omega,ad⟩
        · exact .inr ⟨U,j+1,i0 _,h⟩
      · rintro (U|⟨U,_⟩)
        · exact .inl (.inl U)
        · exact .inr U
    · rw [f0 h]
      have:(if q=bq arg (path.take j) then ((gJ neg arg path j σ) (bq arg (path.take j))).slot (path.getD j 0) else (gJ neg arg path j σ) q).gb=((gJ neg arg path j σ) q).gb:=by
        split
        · rename_i ad;rw [← ad];rfl
        · rfl
      rw [this,aX];constructor
      · rintro (U|⟨U,i,aS,ad⟩)
        · exact .inl U
        · exact .inr ⟨U,i,by omega,ad⟩
      · rintro (U|⟨U,i,aS,ad⟩)
        · exact .inl U
        · rcases ao6 i (j+1) with al|al
          · exact .inr ⟨U,i,by omega,ad⟩
          · exact absurd (by rw [ad,show i=j+1 by omega]) h
theorem OG (neg:Bool) (arg:Int) (path:List Int) (q:List Int) (s:Int):∀ (j:Nat) (σ:dJ),(s∈((gJ neg arg path j σ) q).bj↔s∈(σ q).bj∨∃ i,i<j∧q=bq arg (path.take i)∧s=path.getD i 0)
  | 0,σ=>by
    rw [gJ,tc];have:(if q=bq arg [] then (σ (bq arg [])).need neg else σ q).bj=(σ q).bj:=by
      split
      · rename_i h;rw [h];rfl
      · rfl
    rw [this];constructor
    · exact .inl
    · rintro (h|⟨i,h,_⟩)
      · exact h
      · omega
  | j+1,σ=>by
    have aX:=OG neg arg path q s j σ;rw [gJ];simp only [tc]
    have e:(if q=bq arg (path.take (j+1)) then (if bq arg (path.take (j+1))=bq arg (path.take j) then ((gJ neg arg path j σ) (bq arg (path.take j))).slot (path.getD j 0) else (gJ neg arg path j σ) (bq arg (path.take (j+1)))).need neg
        else (if q=bq arg (path.take j) then ((gJ neg arg path j σ) (bq arg (path.take j))).slot (path.getD j 0) else (gJ neg arg path j σ) q)).bj=(if q=bq arg (path.take j) then ((gJ neg arg path j σ) q).slot (path.getD j 0) else (gJ neg arg path j σ) q).bj:=by
      by_cases h:q=bq arg (path.take (j+1))
      · rw [f9 h,h]
        show (if _ then _ else _:de).bj=_;split
        · rename_i ad;rw [ad]
        · rfl
      · rw [f0 h]
        split
        · rename_i ad;rw [ad]
        · rfl
    rw [e];by_cases h:q=bq arg (path.take j)
    · rw [f9 h]
      show s∈mC _ _↔_;rw [Mo,aX];constructor
      · rintro (U|U|⟨i,aS,U,ad⟩)
        · exact .inr ⟨j,ak' _,h,U⟩
        · exact .inl U
        · exact .inr ⟨i,by omega,U,ad⟩
      · rintro (U|⟨i,aS,U,ad⟩)
        · exact .inr (.inl U)
        · rcases ao6 i j with al|al
          · exact .inr (.inr ⟨i,al,U,ad⟩)
          · rw [show i=j by omega] at ad;exact .inl ad
    · rw [f0 h,aX]
      constructor
      · rintro (U|⟨i,aS,U,ad⟩)
        · exact .inl U
        · exact .inr ⟨i,by omega,U,ad⟩
      · rintro (U|⟨i,aS,U,ad⟩)
        · exact .inl U
        · rcases ao6 i j with al|al
          · exact .inr ⟨i,al,U,ad⟩
          · exact absurd (by rw [U,show i=j by omega]) h
theorem nP.path {w:bw} {L:List ch} (h:nP w L):∀ x∈L,x.1.path.length≤2:=fun x ab=>(CV (h x ab).1 (h x ab).2).1
theorem ZV (σ:dJ) (x:ch) (q:List Int):((addLit σ x) q).core=if q=bq x.1.arg x.1.path then (σ q).core.ask x else (σ q).core:=by
 unfold addLit;rw [tc];split
 ·rename_i h;rw [ZT,yu,h]
 ·rw [yu]
theorem ZW (σ:dJ) (x:ch) (q:List Int):((addLit σ x) q).gb=true↔(σ q).gb=true∨x.2=false∧∃ i,i≤x.1.path.length∧q=bq x.1.arg (x.1.path.take i):=by
 rw [← OF];unfold addLit;rw [tc];split
 ·rename_i h;rw [ZU,h]
 ·rfl
theorem ZX (σ:dJ) (x:ch) (q:List Int) (s:Int):s∈((addLit σ x) q).bj↔s∈(σ q).bj∨∃ i,i<x.1.path.length∧q=bq x.1.arg (x.1.path.take i)∧s=x.1.path.getD i 0:=by
 rw [← OG x.2];unfold addLit;rw [tc];split
 ·rename_i h;rw [Mp,h]
 ·rfl
theorem Ir {x:ch} {arg:Int} {path:List Int}:sX arg path x=true↔x.1.arg=arg∧path.length≤x.1.path.length∧x.1.path.take path.length=path:=by
 unfold sX GS;simp
theorem ZY {x:ch} {arg:Int} {path:List Int} (ab:x.1.path.length≤2) (aE:path.length≤2):(∃ i,i≤x.1.path.length∧bq arg path=bq x.1.arg (x.1.path.take i))↔sX arg path x=true:=by
 rw [Ir];constructor
 ·rintro ⟨i,aS,h⟩
  obtain ⟨U,ad⟩:=Iq aE uJ h;have aB:path.length=i:=by rw [ad,ac9];omega
  exact ⟨U.symm,by omega,by rw [aB];exact ad.symm⟩
 ·rintro ⟨U,ad,al⟩
  exact ⟨path.length,ad,by rw [U,al]⟩
theorem OH:∀ (l:List Int) (i:Nat),i<l.length→l.take (i+1)=l.take i++[l.getD i 0]:=fun l i aS=>by
 rw [ak7,d5,f8 aS];rfl
theorem ZZ {x:ch} {arg s:Int} {path:List Int} (ab:x.1.path.length≤2) (aE:path.length≤2):(∃ i,i<x.1.path.length∧bq arg path=bq x.1.arg (x.1.path.take i)∧s=x.1.path.getD i 0)↔sX arg (path++[s]) x=true:=by
 rw [Ir,d9,ac8];constructor
 ·rintro ⟨i,aS,h,rfl⟩
  obtain ⟨U,ad⟩:=Iq aE uJ h;have aB:path.length=i:=by rw [ad,ac9];omega
  exact ⟨U.symm,by omega,by rw [aB,OH _ _ aS,← ad]⟩
 ·rintro ⟨U,ad,al⟩
  rw [OH _ _ ag] at al;obtain ⟨bd,bB⟩:=List.append_inj' al rfl;exact ⟨path.length,by omega,by rw [U,bd],(List.cons.inj bB).1.symm⟩
theorem exists_cons {q:ch→Prop} {x:ch} {r:List ch}:(∃ y∈x::r,q y)↔q x∨∃ y∈r,q y:=by simp
section
variable {w:bw} {arg:Int} {path:List Int} (aE:path.length≤2)
include aE
theorem OI:∀ (L:List ch) (σ:dJ),nP w L→((L.foldl addLit σ) (bq arg path)).core=(gy L arg path).foldl de.ask (σ (bq arg path)).core
  | [],σ,_=>rfl
  | x::r,σ,h=>by
    rw [af0,OI r _ (fun y ax=>h y (g7 _ ax)),ZV];unfold gy;rw [ai8];have ab:=h.path x i5;by_cases e:CW arg path x=true
    · rw [f9 e]
      unfold CW at e;simp only [f6,g8,aj1] at e;rw [f9 (by rw [e.1,e.2]),af0]
    · rw [f0 e,f0]
      intro ad;obtain ⟨al,bd⟩:=Iq aE ab ad;exact e (by unfold CW;simp [al,bd])
theorem OJ:∀ (L:List ch) (σ:dJ),nP w L→(((L.foldl addLit σ) (bq arg path)).gb=true↔(σ (bq arg path)).gb=true∨∃ x∈L,x.2=false∧sX arg path x=true)
  | [],σ,_=>by simp
  | x::r,σ,h=>by
    rw [af0,OJ r _ (fun y ax=>h y (g7 _ ax)),ZW,ZY (h.path x i5) aE,or_assoc,exists_cons]
theorem OK (s:Int):∀ (L:List ch) (σ:dJ),nP w L→(s∈((L.foldl addLit σ) (bq arg path)).bj↔s∈(σ (bq arg path)).bj∨∃ x∈L,sX arg (path++[s]) x=true)
  | [],σ,_=>by simp
  | x::r,σ,h=>by
    rw [af0,OK s r _ (fun y ax=>h y (g7 _ ax)),ZX,ZZ (h.path x i5) aE,or_assoc,exists_cons]
variable {L:List ch} (bY:nP w L)
include bY
theorem OL:((ec L) (bq arg path)).gb = !py L arg path:=by
 rw [ad1];unfold ec py;rw [OJ aE L vZ bY];simp [vZ,iH]
theorem DV (s:Int):s∈((ec L) (bq arg path)).bj↔qy L arg path s=true:=by
 unfold ec qy;rw [OK aE s L vZ bY];simp [vZ,iH]
omit aE in
theorem Bb {s:Int} (h:qy L arg path s=true):0≤s∧s<(w.owner.length:Int)∧(path++[s]).length≤2:=by
 unfold qy at h;obtain ⟨x,ab,h⟩:=ae4.1 h;obtain ⟨-,ad,al⟩:=Ir.1 h;obtain ⟨bd,bB⟩:=CV (bY x ab).1 (bY x ab).2;have hm:s∈x.1.path:=am5 (by rw [al];simp);have:=bB s hm;exact ⟨this.1,this.2,by omega⟩
theorem Is {s:Int}:s∈kG w.owner.length L arg path↔s∈((ec L) (bq arg path)).bj:=by
 rw [DV aE bY];unfold kG;simp only [ad2,af4,ah6];constructor
 ·rintro ⟨n,⟨-,h⟩,rfl⟩;exact h
 ·intro h
  have:=Bb bY h;exact ⟨s.toNat,⟨by omega,by rw [show ((s.toNat:Nat):Int)=s by omega];exact h⟩,by omega⟩
theorem Z0:ug w.owner.length L arg path=As (ec L) arg path:=by
 unfold ug As;rw [ad1,ae',ae'];constructor <;>
 ·intro h s ao
  have gY:=ao
  first|rw [Is aE bY] at ao|rw [← Is aE bY] at ao
  have ff:qy L arg path s=true:=by
   first|exact (DV aE bY s).1 ao|exact (DV aE bY s).1 gY
  have ad:=OL (arg:=arg) (Bb bY ff).2.2 bY;have U:=h s ao;rw [ad] at *;simpa using U
end
def uH (x:ch):Bool:=decide (x.1.op=2)&&(decide (x.1.cls>1) != x.2)
theorem OM:∀ (l:List ch) (k:de),uh l (k.low,k.high,k.eY)=if l.any uH then none else some ((l.foldl de.ask k).low,(l.foldl de.ask k).high,(l.foldl de.ask k).eY)
  | [],k=>rfl
  | x::r,k=>by
    have aX:=OM r (k.ask x);rw [uh,ai6,af0];by_cases ad:x.1.op=2
    · have e:uH x=(decide (x.1.cls>1) != x.2):=by unfold uH;rw [i6 ad,f4]
      rw [f9 ad,e];have b7:(k.ask x).low=k.low:=by unfold de.ask;rw [f9 ad];split<;>rfl
      have bR:(k.ask x).high=k.high:=by unfold de.ask;rw [f9 ad];split<;>rfl
      have eE:(k.ask x).eY=k.eY:=by unfold de.ask;rw [f9 ad];split<;>rfl
      rw [b7,bR,eE] at aX;cases an:(decide (x.1.cls>1) != x.2) with
      | true=>simp
      | false=>rw [af1,f0 bc,aX]
    · have e:uH x=false:=by unfold uH;rw [H1 ad,f7]
      rw [f0 ad,e,af1,← aX];unfold de.ask;rw [f0 ad];split
      · split<;>rfl
      · split<;>rfl
theorem ON:∀ (k:Nat) (n:Int) (l:List Int),CX k n l=pz k n l
 | 0,_,_=>rfl
 | k+1,n,l=>by rw [CX,pz,ON k]
theorem OO:∀ (l:List ch) (k:de) (c:Nat),(l.foldl de.ask k).fE.testBit c=(k.fE.testBit c||l.any fun x=>decide (x.1.op=2)&&(!x.2&&decide (x.1.cls.toNat=c)))
  | [],k,c=>by simp
  | x::r,k,c=>by
    rw [af0,OO r,ai6,← ap1];congr 1;unfold de.ask;by_cases ad:x.1.op=2
    · rw [f9 ad,i6 ad,f4]
      cases x.2 with
      | true=>simp
      | false=>simp [aj7,ai9]
    · rw [f0 ad,H1 ad,f7,ak5]
      repeat' split
      all_goals rfl
theorem OP:∀ (l:List ch) (k:de) (c:Nat),(l.foldl de.ask k).no.testBit c=(k.no.testBit c||l.any fun x=>decide (x.1.op=2)&&(x.2&&decide (x.1.cls.toNat=c)))
  | [],k,c=>by simp
  | x::r,k,c=>by
    rw [af0,OP r,ai6,← ap1];congr 1;unfold de.ask;by_cases ad:x.1.op=2
    · rw [f9 ad,i6 ad,f4]
      cases x.2 with
      | false=>simp
      | true=>simp [aj7,ai9]
    · rw [f0 ad,H1 ad,f7,ak5]
      repeat' split
      all_goals rfl
theorem OQ:∀ (l:List ch) (k:de),(l.foldl de.ask k).whole=(k.whole||l.any fun x => !decide (x.1.op=2) && !x.2)
  | [],k=>by simp
  | x::r,k=>by
    rw [af0,OQ r,ai6,← ap1];congr 1;unfold de.ask;by_cases ad:x.1.op=2
    · rw [f9 ad,i6 ad]
      split<;>simp
    · rw [f0 ad,H1 ad]
      cases ab:x.2<;>by_cases al:x.1.op=3<;>simp [al]
theorem OR {p q b:ch→Bool}:∀ (l:List ch),(∀ x∈l,b x=(p x||q x))→l.any b = !(l.all (fun x => !p x)&&l.all (fun x => !q x))
  | [],_=>rfl
  | x::r,h=>by
    rw [ai6,aj6,aj6,OR r (fun y ax=>h y (g7 _ ax)),h x i5];cases p x<;>cases q x<;>simp
section
variable {w:bw} (hw:fQ w) {arg:Int} {path:List Int} (aE:path.length≤2) {L:List ch} (bY:nP w L)
include aE bY
theorem DW:((ec L) (bq arg path)).core=(gy L arg path).foldl de.ask iH:=OI aE L vZ bY
theorem uI (c:Nat):((ec L) (bq arg path)).fE.testBit c=(gy L arg path).any fun x=>decide (x.1.op=2)&&(!x.2&&decide (x.1.cls.toNat=c)):=by
 have h:((ec L) (bq arg path)).fE=((gy L arg path).foldl de.ask iH).fE:=by rw [← DW aE bY];rfl
 rw [h,OO];simp [iH]
theorem DX (c:Nat):((ec L) (bq arg path)).no.testBit c=(gy L arg path).any fun x=>decide (x.1.op=2)&&(x.2&&decide (x.1.cls.toNat=c)):=by
 have h:((ec L) (bq arg path)).no=((gy L arg path).foldl de.ask iH).no:=by rw [← DW aE bY];rfl
 rw [h,OP];simp [iH]
theorem OS:((ec L) (bq arg path)).whole=(gy L arg path).any fun x => !decide (x.1.op=2) && !x.2:=by
 have h:((ec L) (bq arg path)).whole=((gy L arg path).foldl de.ask iH).whole:=by rw [← DW aE bY];rfl
 rw [h,OQ];simp [iH]
omit aE in
theorem rW {x:ch} (ab:x∈gy L arg path) (ad:x.1.op=2):0≤x.1.cls∧x.1.cls<3+(w.ps.length:Int):=by
 unfold gy at ab;obtain ⟨aA,aB⟩:=bY x (af4.1 ab).1;simp only [hi,aB,ae2,f9 ad,f6,g8] at aA;have:=aA.2.2.2.2.2.2.2;omega
theorem OT {c:Nat} (h:((ec L) (bq arg path)).fE.testBit c=true):c<3+w.ps.length:=by
 rw [uI aE bY] at h;obtain ⟨x,ab,h⟩:=ae4.1 h;simp only [f6,g8] at h;have:=rW bY ab h.1;omega
include hw
theorem OU {c:Nat} (aF:c<3):um (ec L) arg path c=((gy L arg path).all (fun x => !(decide (x.1.op=2)&&(!x.2 && !(decide (x.1.cls=0)||decide (x.1.cls=c)))))&&((gy L arg path).all (fun x => !(decide (x.1.op=2)&&(x.2&&(decide (x.1.cls=0)||decide (x.1.cls=c)))))&&ug w.owner.length L arg path)):=by
 have tZ:=hw.j9;unfold um;rw [Z0 aE bY];have an:∀ i,(1|||2^c:Nat).testBit i=(decide (i=0)||decide (i=c)):=fun i=>by
  rw [aj7,zz,ai9];congr 1;rw [ad1,g8,g8];omega
 congr 1
 ·rw [ad1,g8,ae']
  constructor
  ·intro h x ab
   cases c6:(decide (x.1.op=2)&&(!x.2 && !(decide (x.1.cls=0)||decide (x.1.cls=c)))) with
   | false=>rfl
   | true=>
    exfalso;simp only [f6,g8,ag5,ai2,decide_eq_false_iff_not] at c6;have cu:=rW bY ab c6.1;have hm:((ec L) (bq arg path)).fE.testBit x.1.cls.toNat=true:=by
     rw [uI aE bY,ae4];exact ⟨x,ab,by simp [c6.1,c6.2.1]⟩
    have:=ac5 (fun n=>n.testBit x.1.cls.toNat) h;simp only [kz,aj2,ap2,hm,an,ao4,f4] at this;rw [show (18446744073709551615:Nat)=2^64-1 by decide,af9,i6 (by omega:x.1.cls.toNat<64),H1 ag,H1 ag] at this;cases this
  ·intro h
   apply al1;intro i;rw [ao4];cases hm:((ec L) (bq arg path)).fE.testBit i with
   | false=>unfold kz;rw [aj2,hm,f7]
   | true=>
    have aS:=OT aE bY hm;rw [uI aE bY,ae4] at hm;obtain ⟨x,ab,hm⟩:=hm;simp only [f6,g8,ag5] at hm;have:=h x ab;have cu:=rW bY ab hm.1;simp only [hm.1,hm.2.1,decide_true,ah3,f4,Bool.not_not,ag9,g8] at this;unfold kz;rw [aj2,ap2,an,show (18446744073709551615:Nat)=2^64-1 by decide,af9,i6 (by omega:i<64)];rcases (by omega:i=0∨i=c) with rfl|rfl
    ·simp
    ·simp
 congr 1;rw [ad1,g8,ae'];constructor
 ·intro h x ab
  cases c6:(decide (x.1.op=2)&&(x.2&&(decide (x.1.cls=0)||decide (x.1.cls=c)))) with
  | false=>rfl
  | true=>
   exfalso;simp only [f6,g8,ag9] at c6;have cu:=rW bY ab c6.1;have hm:((ec L) (bq arg path)).no.testBit x.1.cls.toNat=true:=by
    rw [DX aE bY,ae4];exact ⟨x,ab,by simp [c6.1,c6.2.1]⟩
   have:=ac5 (fun n=>n.testBit x.1.cls.toNat) h;simp only [aj2,hm,an,ao4,f4,ai2,decide_eq_false_iff_not] at this;omega
 ·intro h
  apply al1;intro i;rw [ao4,aj2,an];cases hm:((ec L) (bq arg path)).no.testBit i with
  | false=>rfl
  | true=>
   rw [DX aE bY,ae4] at hm;obtain ⟨x,ab,hm⟩:=hm;simp only [f6,g8] at hm;have:=h x ab;have cu:=rW bY ab hm.1;simp only [hm.1,hm.2.1,decide_true,f4,ag5,ai2,decide_eq_false_iff_not] at this;simp only [f4,ai2,decide_eq_false_iff_not];omega
theorem Z1:xT w.owner.length L arg path=wm (ec L) arg path:=by
 have aS:=OM (gy L arg path) iH;have aF:=DW (arg:=arg) aE bY;have U:((ec L) (bq arg path)).low=((gy L arg path).foldl de.ask iH).low:=by rw [← aF];rfl
 have ad:((ec L) (bq arg path)).high=((gy L arg path).foldl de.ask iH).high:=by rw [← aF];rfl
 have al:((ec L) (bq arg path)).eY=((gy L arg path).foldl de.ask iH).eY:=by rw [← aF];rfl
 unfold xT wm wk;rw [OU hw aE bY ag,U,ad,al];rw [show ((-1000000000:Int),(1000000000:Int),([]:List Int))=(iH.low,iH.high,iH.eY) from rfl,aS];have an:(gy L arg path).any uH = !((gy L arg path).all (fun x => !(decide (x.1.op=2)&&(!x.2 && !(decide (x.1.cls=0)||decide (x.1.cls=(1:Nat))))))&&(gy L arg path).all (fun x => !(decide (x.1.op=2)&&(x.2&&(decide (x.1.cls=0)||decide (x.1.cls=(1:Nat))))))):=by
  have e:∀ x∈gy L arg path,uH x=(decide (x.1.op=2)&&(!x.2 && !(decide (x.1.cls=0)||decide (x.1.cls=(1:Nat))))||decide (x.1.op=2)&&(x.2&&(decide (x.1.cls=0)||decide (x.1.cls=(1:Nat))))):=by
   intro x ab;unfold uH;by_cases ad:x.1.op=2
   ·have:=rW bY ab ad
    rw [i6 ad];have b7:decide (x.1.cls>1) = !(decide (x.1.cls=0)||decide (x.1.cls=(1:Nat))):=by
     rw [ad1];simp;omega
    rw [b7];cases x.2<;>simp
   ·rw [H1 ad];rfl
  exact OR _ e
 rw [an];cases (gy L arg path).all (fun x => !(decide (x.1.op=2)&&(!x.2 && !(decide (x.1.cls=0)||decide (x.1.cls=(1:Nat)))))) with
 | false=>simp
 | true=>
  cases (gy L arg path).all (fun x => !(decide (x.1.op=2)&&(x.2&&(decide (x.1.cls=0)||decide (x.1.cls=(1:Nat)))))) with
  | false=>simp
  | true=>simp only [Bool.and_self,ah7,ad5,af5,f4,ON]
theorem Z2:xU w.owner.length L arg path=wj (ec L) arg path:=by
 unfold xU wj;rw [OU hw aE bY ag,OS aE bY,← az1,← az1];congr 1;rw [ad1];simp only [f6,ae',ag5,ah'];have e:∀ x∈gy L arg path,(GV x=false↔(¬(decide (x.1.op=2)=false∧x.2=false)∧(decide (x.1.op=2)&&(!x.2 && !(decide (x.1.cls=0)||decide (x.1.cls=(2:Nat)))))=false)∧(decide (x.1.op=2)&&(x.2&&(decide (x.1.cls=0)||decide (x.1.cls=(2:Nat)))))=false):=by
  intro x ab;unfold GV;by_cases ad:x.1.op=2<;>cases x.2<;>simp [ad]<;>omega
 constructor
 ·intro h
  exact ⟨⟨fun x ab=>((e x ab).1 (h x ab)).1.1,fun x ab=>((e x ab).1 (h x ab)).1.2⟩,fun x ab=>((e x ab).1 (h x ab)).2⟩
 ·rintro ⟨⟨U,ad⟩,al⟩ x ab
  exact (e x ab).2 ⟨⟨U x ab,ad x ab⟩,al x ab⟩
end
theorem It {l kT:List Int} {f g:Int→Bool} (h:∀ s,s∈l↔s∈kT) (a1:∀ s∈l,f s=g s):l.any f=kT.any g:=by
 rw [ad1,ae4,ae4];constructor
 ·rintro ⟨s,ao,e⟩;exact ⟨s,(h s).1 ao,by rw [← a1 s ao];exact e⟩
 ·rintro ⟨s,ao,e⟩;exact ⟨s,(h s).2 ao,by rw [a1 s ((h s).2 ao)];exact e⟩
def nd (x:ch):Bool := !decide (x.1.op=2)||(decide (x.1.cls=1)||decide (x.1.cls=2))
theorem Iu (a:Nat→Bool) (c k:Nat) (b:Bool):((if k=c then true else a k)||b)=(a k||(decide (c=k)||b)):=by
 by_cases h:k=c
 ·rw [f9 h,i6 h.symm];simp
 ·rw [f0 h,H1 (Ne.symm h)];simp
theorem DY:∀ (l:List ch) (a:(Nat→Bool)×(Nat→Bool)),qz l a=if l.any (fun x=>nd x && !x.2) then none else
    some (fun k=>a.1 k||l.any (fun x => !nd x&&(!x.2&&decide (x.1.cls.toNat=k))),fun k=>a.2 k||l.any (fun x => !nd x&&(x.2&&decide (x.1.cls.toNat=k))))
  | [],a=>by rw [qz];simp
  | x::r,a=>by
    rw [qz,ai6];simp only [ai6];by_cases h:x.1.op≠2∨x.1.cls=1∨x.1.cls=2
    · have e:nd x=true:=by unfold nd;simpa [or_assoc] using h
      rw [f9 h,e];cases x.2 with
      | true=>rw [f9 C,DY r a];simp only [ah7,ai5,af1,f7]
      | false=>simp
    · have e:nd x=false:=by
        rw [ae9];intro e;apply h;unfold nd at e;simpa [or_assoc] using e
      rw [f0 h,e];cases x.2 with
      | true=>
        rw [f9 C,DY r _];simp only [Iu,ah7,ah3,ai5,af1,f7,f4]
      | false=>
        rw [f0 bc,DY r _];simp only [Iu,ah7,ah3,ai5,af1,f7,f4]
theorem OV (w:bw) (L:List ch) (cn:List Int→Bool) (arg:Int) (path:List Int):∀ (l:List Int) (a:(Nat→Bool)×(Nat→Bool)),oI w L cn arg path l a=if l.any (fun s => !py L arg (path++[s]) && !cn (path++[s])) then none else
    some (fun k=>a.1 k||l.any (fun s => !py L arg (path++[s])&&decide (jv w s=k)),fun k=>a.2 k||l.any (fun s => !cn (path++[s])&&decide (jv w s=k)))
  | [],a=>by rw [oI];simp
  | s::r,a=>by
    rw [oI,ai6];simp only [ai6];cases aF:(!py L arg (path++[s]) && !cn (path++[s])) with
    | true=>simp
    | false=>
      rw [f0 bc,af1,OV w L cn arg path r _];cases py L arg (path++[s])<;>cases cn (path++[s])<;>simp only [Iu,jv,ah7,ah3,ai5,af1,f7,f4,ae2,af5,ad5]<;>rfl
theorem Iv {w:bw} {σ:dJ} {cn:List Int→Bool} {arg:Int} {path:List Int}:∀ {l:List Int} {m n:Nat},l.any (fun s=>(σ (bq arg (path++[s]))).gb && !cn (path++[s]))=true→oJ w σ cn arg path l m n=none
  | s::r,m,n,h=>by
    rw [oJ];rw [ai6] at h;cases aF:((σ (bq arg (path++[s]))).gb && !cn (path++[s])) with
    | true=>rfl
    | false=>
      rw [aF,af1] at h;rw [f0 bc];split
      · exact Iv h
      · split<;>exact Iv h
theorem DZ {w:bw} {σ:dJ} {cn:List Int→Bool} {arg:Int} {path:List Int}:∀ {l:List Int} {m n:Nat},l.any (fun s=>(σ (bq arg (path++[s]))).gb && !cn (path++[s]))=false →
    ∃ jb n',oJ w σ cn arg path l m n=some (jb,n')∧(∀ k,jb.testBit k=(m.testBit k||l.any fun s=>(σ (bq arg (path++[s]))).gb&&decide (jv w s=k)))∧∀ k,n'.testBit k=(n.testBit k||l.any fun s => !cn (path++[s])&&decide (jv w s=k))
  | [],m,n,_=>⟨m,n,rfl,fun k=>by simp,fun k=>by simp⟩
  | s::r,m,n,h=>by
    rw [ai6,ai2] at h;obtain ⟨U,ad⟩:=h;rw [oJ,f0 (by rw [U];simp)];simp only [ai6];by_cases aA:(σ (bq arg (path++[s]))).gb=true
    · rw [aA,f4,ax3] at U
      obtain ⟨jb,n',e,hm,gF⟩:=DZ (w:=w) (σ:=σ) (cn:=cn) (arg:=arg) (path:=path) (l:=r) (m:=m|||2^jv w s) (n:=n) ad;refine ⟨jb,n',by rw [f9 aA];exact e,fun k=>?_,fun k=>?_⟩
      · rw [hm,aA,aj7,ai9,f4,ap1]
      · rw [gF,U];simp
    · rw [f0 aA]
      have aA:(σ (bq arg (path++[s]))).gb=false:=by simpa using aA
      by_cases aF:cn (path++[s])=true
      · obtain ⟨jb,n',e,hm,gF⟩:=DZ (w:=w) (σ:=σ) (cn:=cn) (arg:=arg) (path:=path) (l:=r) (m:=m) (n:=n) ad
        refine ⟨jb,n',by rw [f9 aF];exact e,fun k=>?_,fun k=>?_⟩
        · rw [hm,aA];simp
        · rw [gF,aF];simp
      · obtain ⟨jb,n',e,hm,gF⟩:=DZ (w:=w) (σ:=σ) (cn:=cn) (arg:=arg) (path:=path) (l:=r) (m:=m) (n:=n|||2^jv w s) ad
        have my:cn (path++[s])=false:=by simpa using aF
        refine ⟨jb,n',by rw [f0 aF];exact e,fun k=>?_,fun k=>?_⟩
        · rw [hm,aA];simp
        · rw [gF,my,aj7,ai9,ah3,f4,ap1]
theorem OW {w:bw} (hw:fQ w) (m:Nat) (k:Nat):∀ i,i≤w.ps.length→(((af7 i).foldl (sY w) m).testBit k=true↔m.testBit k=true∨∃ j,j<i∧m.testBit (3+j)=true∧((eI w.ps).getD (3+j) 0).testBit k=true)
  | 0,_=>by simp
  | i+1,aS=>by
    have aX:=fun k=>OW hw m k i ag
    rw [an5,an',af0,at4];have an:((af7 i).foldl (sY w) m).testBit (3+i)=m.testBit (3+i):=by
      rw [ad1,aX (3+i)];constructor
      · rintro (h|⟨j,aO,-,h⟩)
        · exact h
        · have:=xr hw (3+j+1) (3+j) (3+i) ag ag h;omega
      · exact .inl
    have e:∀ M,sY w M i=if M.testBit (3+i) then M|||(eI w.ps).getD (3+i) 0 else M:=fun M=>rfl
    rw [e,an];by_cases al:m.testBit (3+i)=true
    · rw [f9 al,aj7,ag9,aX]
      constructor
      · rintro ((h|⟨j,aO,h,eT⟩)|h)
        · exact .inl h
        · exact .inr ⟨j,by omega,h,eT⟩
        · exact .inr ⟨i,by omega,al,h⟩
      · rintro (h|⟨j,aO,h,eT⟩)
        · exact .inl (.inl h)
        · rcases af3.1 aO with aO|rfl
          · exact .inl (.inr ⟨j,aO,h,eT⟩)
          · exact .inr eT
    · rw [f0 al,aX]
      constructor
      · rintro (h|⟨j,aO,h,eT⟩)
        · exact .inl h
        · exact .inr ⟨j,by omega,h,eT⟩
      · rintro (h|⟨j,aO,h,eT⟩)
        · exact .inl h
        · rcases af3.1 aO with aO|rfl
          · exact .inr ⟨j,aO,h,eT⟩
          · exact absurd h al
theorem Z3 {w:bw} (hw:fQ w) {f a2:Nat→Bool} {m n:Nat} (a1:∀ k,1≤k→f k=m.testBit k) (DU:f 0=false) (wP:m.testBit 1=false∧m.testBit 2=false) (hm:∀ k,m.testBit k=true→k<3+w.ps.length) (a8:∀ k,3≤k→a2 k=n.testBit k) :
  ((af7 (3+w.ps.length)).all fun k => !(gG w.ps w.ps.length f k&&a2 k))=decide (kz (qB w m) 1 &&& n=0):=by
 have tZ:=hw.j9;have ra:∀ k,((qB w m).testBit k=true↔m.testBit k=true∨∃ j,j<w.ps.length∧m.testBit (3+j)=true∧((eI w.ps).getD (3+j) 0).testBit k=true):=fun k=>OW hw m k w.ps.length (i0 _)
 have cu:∀ k,3≤k→gG w.ps w.ps.length f k=(qB w m).testBit k:=fun k aD=>by
  rw [ad1,Fv hw _ _ _ aD (i0 _),ra,a1 k ag];constructor <;>
  ·rintro (h|⟨j,aO,h,eT⟩)
   ·exact .inl h
   ·exact .inr ⟨j,aO,by first|rw [← a1 _ ag];exact h|rw [a1 _ ag];exact h,eT⟩
 have Z4:∀ k,1≤k→k<3→(qB w m).testBit k=false:=fun k U al=>by
  rw [ae9];intro h;rcases (ra k).1 h with h|⟨j,aO,-,h⟩
  ·rcases (by omega:k=1∨k=2) with rfl|rfl
   ·rw [wP.1] at h;cases h
   ·rw [wP.2] at h;cases h
  ·have:=xr hw (3+j+1) (3+j) k ag ag h
   omega
 rw [ad1,ae',g8];constructor
 ·intro h
  apply al1;intro i;unfold kz;rw [ao4,aj2,aj2,ap2,zz];by_cases bo:i=0
  ·subst bo
   rw [show (18446744073709551615:Nat).testBit 0=true from rfl];simp
  by_cases al:i<3
  ·rw [Z4 i ag al];rfl
  ·cases hu:(qB w m).testBit i with
   | false=>rfl
   | true=>
    have aS:i<3+w.ps.length:=by
     rcases (ra i).1 hu with h|⟨j,aO,-,h⟩
     ·exact hm i h
     ·have:=xr hw (3+j+1) (3+j) i ag ag h
      omega
    have:=h i (ah6.2 aS);rw [cu i ag,hu,f4,a8 i ag,ag5] at this;rw [this,ai5]
 ·intro h k aD
  have aD:=ah6.1 aD;by_cases al:k<3
  ·rw [Fu hw _ _ _ al (i0 _)]
   rcases (by omega:k=0∨k=1∨k=2) with rfl|rfl|rfl
   ·rw [DU];rfl
   ·rw [a1 1 ag,wP.1];rfl
   ·rw [a1 2 ag,wP.2];rfl
  ·rw [cu k ag,a8 k ag]
   have:=ac5 (fun n=>n.testBit k) h;unfold kz at this;simp only [ao4,aj2,ap2,zz] at this;rw [show (18446744073709551615:Nat)=2^64-1 by decide,af9,i6 (by omega:k<64),H1 (by omega:¬ k=0)] at this;cases hu:(qB w m).testBit k with
   | false=>rfl
   | true=>rw [hu] at this;simpa using this
section
variable {w:bw} (hw:fQ w) {arg:Int} {path:List Int} (aE:path.length≤2) {L:List ch} (bY:nP w L)
include aE bY hw
omit aE in
theorem Iw {s:Int} (h:qy L arg path s=true):3≤jv w s∧jv w s<3+w.ps.length:=by
 have U:=Bb bY h;have az:s.toNat<w.owner.length:=by omega
 have:=hw.own _ (ak3 az);unfold jv;rw [d5,f8 az,ae7];omega
theorem Z5 {eb yv:List Int→Bool} (aF:∀ s,qy L arg path s=true→eb (path++[s])=yv (path++[s])):xV w L eb arg path=(wo w (ec L) yv arg path).2:=by
 have fV:∀ s,s∈kG w.owner.length L arg path↔s∈((ec L) (bq arg path)).bj:=fun s=>Is aE bY
 have yw:∀ s∈kG w.owner.length L arg path,qy L arg path s=true:=fun s ao=>(DV aE bY s).1 ((fV s).1 ao)
 have e2:∀ s∈kG w.owner.length L arg path,(!py L arg (path++[s]))=((ec L) (bq arg (path++[s]))).gb:=fun s ao=>(OL (Bb bY (yw s ao)).2.2 bY).symm
 unfold xV wo;rw [DY,OS aE bY,uI aE bY,uI aE bY,DX aE bY];by_cases an:(gy L arg path).any (fun x=>nd x && !x.2)=true
 ·rw [f9 an,f9]
  obtain ⟨x,ab,h⟩:=ae4.1 an;simp only [ag9,ae4];unfold nd at h;simp only [f6,ag9,ag5,g8,decide_eq_false_iff_not] at h;obtain ⟨U,ad⟩:=h;rcases U with U|U|U
  ·exact .inl ⟨x,ab,by simp [U,ad]⟩
  ·by_cases al:x.1.op=2
   ·exact .inr (.inl ⟨x,ab,by simp [U,ad,al]⟩)
   ·exact .inl ⟨x,ab,by simp [al,ad]⟩
  ·by_cases al:x.1.op=2
   ·exact .inr (.inr (.inl ⟨x,ab,by simp [U,ad,al]⟩))
   ·exact .inl ⟨x,ab,by simp [al,ad]⟩
 rw [f0 an];have dF:∀ x∈gy L arg path,x.2=false→x.1.op=2∧x.1.cls≠1∧x.1.cls≠2:=by
  intro x ab ad;have:=ah'.1 (ae9.2 an) x ab;unfold nd at this;rw [ad] at this;simpa using this
 have b7:(gy L arg path).any (fun x => !decide (x.1.op=2) && !x.2)=false:=by
  rw [ah'];intro x ab h;simp only [f6,ag5,decide_eq_false_iff_not] at h;exact h.1 (dF x ab h.2).1
 have bR:∀ c:Nat,c=1∨c=2→(gy L arg path).any (fun x=>decide (x.1.op=2)&&(!x.2&&decide (x.1.cls.toNat=c)))=false:=by
  intro c ud;rw [ah'];intro x ab h;simp only [f6,ag5,g8] at h;have:=dF x ab h.2.1;have:=rW bY ab h.1;omega
 rw [b7,bR 1 (.inl C),bR 2 (.inr C),af1,af1,af1];simp only;rw [OV];have oO:(kG w.owner.length L arg path).any (fun s => !py L arg (path++[s]) && !eb (path++[s]))=((ec L) (bq arg path)).bj.any (fun s=>((ec L) (bq arg (path++[s]))).gb && !yv (path++[s])):=
  It fV fun s ao=>by rw [e2 s ao,aF s (yw s ao)]
 rw [oO];have Z6:(gy L arg path).any (fun x => !nd x&&(x.2&&decide (x.1.cls.toNat=0)))=(gy L arg path).any (fun x=>decide (x.1.op=2)&&(x.2&&decide (x.1.cls.toNat=0))):=by
  rw [ad1,ae4,ae4];constructor <;>
  ·rintro ⟨x,ab,h⟩
   refine ⟨x,ab,?_⟩;unfold nd at *;by_cases ad:x.1.op=2
   ·simp only [ad,decide_true,f4,f6,g8,ah7,af1,ag5,ai2,decide_eq_false_iff_not] at h ⊢
    have:=rW bY ab ad
    first|exact h.2|(obtain ⟨bd,bB⟩:=h;exact ⟨⟨by omega,by omega⟩,bd,bB⟩)
   ·simp [ad] at h
 have Z7:(kG w.owner.length L arg path).any (fun s => !eb (path++[s])&&decide (jv w s=0))=false:=by
  rw [ah'];intro s ao h;have:=Iw hw bY (yw s ao);simp only [f6,g8] at h;omega
 by_cases a8:((ec L) (bq arg path)).bj.any (fun s=>((ec L) (bq arg (path++[s]))).gb && !yv (path++[s]))=true
 ·rw [f9 a8,Iv a8]
  have:∀ z:Bool,false=(if z=true then (0,false) else ((0,false):Nat×Bool)).2:=fun z=>by cases z<;>rfl
  exact this _
 rw [f0 a8];obtain ⟨jb,n',e,hm,aA⟩:=DZ (w:=w) (σ:=ec L) (cn:=yv) (arg:=arg) (path:=path) (l:=((ec L) (bq arg path)).bj) (m:=((ec L) (bq arg path)).fE) (n:=((ec L) (bq arg path)).no) (by simpa using a8);rw [e];simp only [af1,Z7,Z6,ak5];cases bP:(gy L arg path).any (fun x=>decide (x.1.op=2)&&(x.2&&decide (x.1.cls.toNat=0))) with
 | true=>simp
 | false=>
  simp only [ah3,f4,ad5,af5];have kv:∀ k,(kG w.owner.length L arg path).any (fun s => !py L arg (path++[s])&&decide (jv w s=k))=((ec L) (bq arg path)).bj.any (fun s=>((ec L) (bq arg (path++[s]))).gb&&decide (jv w s=k)):=fun k=>It fV fun s ao=>by rw [e2 s ao]
  have kp:∀ k,(kG w.owner.length L arg path).any (fun s => !eb (path++[s])&&decide (jv w s=k))=((ec L) (bq arg path)).bj.any (fun s => !yv (path++[s])&&decide (jv w s=k)):=fun k=>It fV fun s ao=>by rw [aF s (yw s ao)]
  have OX:∀ k,k<3→((ec L) (bq arg path)).bj.any (fun s=>((ec L) (bq arg (path++[s]))).gb&&decide (jv w s=k))=false:=fun k aD=>by
   rw [ah'];intro s ao h;have:=Iw hw bY (yw s ((fV s).2 ao));simp only [f6,g8] at h;omega
  have ab:∀ k,1≤k→¬ (k=1∨k=2)→∀ b:ch→Bool,(gy L arg path).any (fun x => !nd x&&(b x&&decide (x.1.cls.toNat=k)))=(gy L arg path).any (fun x=>decide (x.1.op=2)&&(b x&&decide (x.1.cls.toNat=k))):=fun k U ad b=>by
   rw [ad1,ae4,ae4];constructor <;>
   ·rintro ⟨x,ab,h⟩
    refine ⟨x,ab,?_⟩;unfold nd at *;by_cases al:x.1.op=2
    ·simp only [al,decide_true,f4,f6,g8,ah7,af1,ag5,ai2,decide_eq_false_iff_not] at h ⊢
     have:=rW bY ab al
     first|exact h.2|(obtain ⟨bd,bB⟩:=h;exact ⟨⟨by omega,by omega⟩,bd,bB⟩)
    ·simp [al] at h
  refine Z3 hw ?_ (f9 C) ⟨?_,?_⟩ ?_ ?_
  ·intro k aD
   rw [f0 ag,hm,kv,uI aE bY];by_cases wP:k=1∨k=2
   ·rw [bR k wP]
    congr 1;rw [ah'];intro x ab h;unfold nd at h;simp only [f6,ag5,ai2,decide_eq_false_iff_not,g8,ax3] at h;have:=rW bY ab h.1.1;omega
   ·rw [ab k aD wP (fun x => !x.2)]
  ·rw [hm,uI aE bY,bR 1 (.inl C),OX 1 ag];rfl
  ·rw [hm,uI aE bY,bR 2 (.inr C),OX 2 ag];rfl
  ·intro k aD
   rw [hm,ag9] at aD;rcases aD with aD|aD
   ·exact OT aE bY aD
   ·obtain ⟨s,ao,aD⟩:=ae4.1 aD
    have:=Iw hw bY (yw s ((fV s).2 ao));simp only [f6,g8] at aD;omega
  ·intro k aD
   rw [aA,kp,DX aE bY,ab k ag ag (fun x=>x.2)]
omit aE in
theorem OY:∀ (k:Nat) (path:List Int),path.length≤2→rD w L arg k path=rF w (ec L) arg k path
  | 0,_,_=>rfl
  | k+1,path,aE=>by
    rw [rD,rF,Z1 hw aE bY,Z2 hw aE bY,Z5 hw aE bY (fun s ao=>OY k _ (Bb bY ao).2.2)]
omit aE in
theorem OZ:Ap w L=mF w (ec L):=by
 unfold Ap mF;congr 1;funext a;exact OY hw bY 3 [] bc
end
theorem O0:∀ (l:List aq) (i v j:Nat) (x:aq),l[j]? = some x→(rG i l v)[j]? = some (x,!v.testBit (i+j))
  | y::r,i,v,0,x,h=>by
    rw [rG];have:y=x:=by simpa using h
    rw [this];rfl
  | y::r,i,v,j+1,x,h=>by
    rw [rG,List.getElem?_cons_succ,O0 r (i+1) v j x gT];rw [show i+1+j=i+(j+1) by omega]
theorem O1:∀ (l:List aq) (i v:Nat),(rG i l v).length=l.length
 | [],_,_=>rfl
 | y::r,i,v=>by rw [rG,i7,O1 r,i7]
theorem Z8 {l:List aq} {v j:Nat} {x:aq} (h:l[j]? = some x):(wx l v)[j]? = some (x,!v.testBit j):=by
 have:=O0 l 0 v j x h;rwa [ad8] at this
theorem O2 (l:List aq) (v:Nat):(wx l v).length=l.length:=O1 l 0 v
theorem O3 {w:bw} {l:List aq} (aB:iS w l) (hn:l.length≤7) (v:Nat):yr w (wx l v):=by
 refine ⟨by rw [O2];omega,fun x ab=>?_⟩;obtain ⟨j,aO⟩:=ag7 ab;have u9:=re aO;rw [O2] at u9;have h:=Z8 (v:=v) (f8 u9);rw [aO] at h;simp only [Option.some.injEq] at h;subst h;have:=aB _ (ak3 u9);rw [pd,f6] at this;exact ⟨this.1.1,this.2⟩
structure O4 (p:bK) (bf:List ev) (n:Int) (args:List (Int×Int)):Prop where
 prog:fs p=true
 obj:sR (b3 p) bf
 j9:args.length≤3
 mg:∀ v∈args,hj bf.length v=true
 abx:(args.length:Int)=p.cR.getD n.toNat 0
 hand:nD (b3 p) bf args=true
theorem O4.of {p:bK} {bf:List ev} {n:Int} {args:List (Int×Int)} (h:s' p bf n args=true):O4 p bf n args:=by
 unfold s' uq at h;simp only [f6,g8] at h;obtain ⟨U,ad,al,bd⟩:=h;have:=LQ bd;exact ⟨U,this.1,this.2.1,this.2.2,al,bd⟩
def Z9 (w:bw) (bf:List ev) (args:List (Int×Int)) (L:List ch):Prop:=∀ x∈L,tK w bf args x.1 = !x.2
section
variable {w:bw} (hw:fQ w) {bf:List ev} (ah:sR w bf) {args:List (Int×Int)} {L:List ch} (bY:nP w L) (ep:Z9 w bf args L)
include bY ep
end
def wQ:ca→Nat→List Int×Nat
 | .leaf ms,_=>(ms,0)
 | .test i a b,v=>((if v.testBit i then wQ b v else wQ a v).1,(if v.testBit i then wQ b v else wQ a v).2+1)
inductive td (g:List bJ) (v:Nat):Nat→List Int→Nat→Prop
 | leaf {j:Nat} {x:bJ}:g[j]? = some x→¬ x.atom≥0→td g v j x.ms 0
 | test {j k:Nat} {x:bJ} {ms:List Int} {s:Nat}:g[j]? = some x→x.atom≥0→(if v.testBit x.atom.toNat then x.yes else x.no)=(k:Int)→td g v k ms s→td g v j ms (s+1)
theorem td.leads {g:List bJ} {v j:Nat} {ms:List Int} {s:Nat} (h:td g v j ms s):∀ (f n:Nat),s≤f→(qD g v f (j:Int) n).2=n+s∧(s<f→(g.getD (qD g v f (j:Int) n).1.toNat default).ms=ms):=by
 induction h with
 | leaf aO a8=>
  rename_i j x;intro f n a1;have av:g.getD (j:Int).toNat default=x:=by rw [ac3,d5,aO];rfl
  cases f with
  | zero=>rw [qD];exact ⟨rfl,fun h=>absurd h ag⟩
  | succ f=>rw [qD,av,f0 a8];exact ⟨rfl,fun _=>by rw [av]⟩
 | test aO a8 aD _ aX=>
  rename_i j k x ms s _;intro f n a1;have av:g.getD (j:Int).toNat default=x:=by rw [ac3,d5,aO];rfl
  cases f with
  | zero=>omega
  | succ f=>
   rw [qD,av,f9 a8,aD];obtain ⟨U,ad⟩:=aX f (n+1) ag;exact ⟨by omega,fun h=>ad ag⟩
def nf (g:List bJ):ca→Nat→Nat→Prop
 | .leaf ms,gD,j=>gD≤j∧g[j]? = some ⟨-1,0,0,ms⟩
 | .test i a b,gD,j=>gD≤j∧∃ x y:Nat,g[j]? = some ⟨i,x,y,[]⟩∧nf g a (j+1) x∧nf g b (j+1) y
theorem nf.low {g:List bJ}:∀ {t:ca} {gD D0 j:Nat},D0≤gD→nf g t gD j→nf g t D0 j
 | .leaf _,gD,D0,j,h,aC=>by rw [nf] at aC ⊢;exact ⟨by omega,aC.2⟩
 | .test _ _ _,gD,D0,j,h,aC=>by rw [nf] at aC ⊢;exact ⟨by omega,aC.2⟩
theorem nf.walk {g:List bJ} (v:Nat):∀ {t:ca} {gD j:Nat},nf g t gD j→td g v j (wQ t v).1 (wQ t v).2
  | .leaf ms,gD,j,h=>by
    rw [nf] at h;exact td.leaf h.2 (by show ¬ ((-1:Int)≥0);omega)
  | .test i a b,gD,j,h=>by
    rw [nf] at h;obtain ⟨-,x,y,U,ad,al⟩:=h;simp only [wQ];cases an:v.testBit i with
    | true=>
      simp only [ae2];exact td.test (k:=y) U (ap9 i) (by simp only [ac3,an,ae2]) (al.walk v)
    | false=>
      simp only [ad5,af5];exact td.test (k:=x) U (ap9 i) (by simp only [ac3,an,ad5,af5]) (ad.walk v)
theorem Ix:∀ (k:Nat) (l:List bJ) (i:Nat),(fi i l).drop k=fi (i+k) (l.drop k)
  | 0,l,i=>rfl
  | k+1,[],i=>by rw [fi,aq8,aq8,fi]
  | k+1,x::r,i=>by
    rw [fi,al4];simp only [al4];rw [Ix k r (i+1),show i+(k+1)=i+1+k by omega]
theorem O5 {g:List bJ} {j:Nat} {x:bJ} (ab:g[j]? = some x):(fi 0 g).getD j 0=if x.atom≥0 then 1+max ((fi 0 g).getD (j+1+(x.no.toNat-(j+1))) 0) ((fi 0 g).getD (j+1+(x.yes.toNat-(j+1))) 0) else 0:=by
 have az:j<g.length:=(ac1.1 ab).1;have av:g.drop j=x::g.drop (j+1):=by
  rw [List.drop_eq_getElem_cons az,(ac1.1 ab).2]
 have U:=Ix j g 0;have ad:=Ix (j+1) g 0;rw [ad8] at U ad;rw [av,fi] at U;have e:∀ k,(fi 0 g).getD (j+1+k) 0=(fi (j+1) (g.drop (j+1))).getD k 0:=fun k=>by
  rw [← ad,d5,d5,al']
 rw [e,e,show (fi 0 g).getD j 0=((fi 0 g).drop j).getD 0 0 by rw [d5,d5,al',am4],U];rfl
structure aby (g:List bJ):Prop where
 leaf:∀ x∈g,¬ x.atom≥0→x.atom = -1∧x.no=0∧x.yes=0∧x.ms.length≤16∧q8 x.ms=true
 test:∀ x∈g,x.atom≥0→x.atom<7∧x.ms.length=0
inductive te (g:List bJ):Nat→Nat→Prop
 | leaf {j:Nat} {x:bJ}:g[j]? = some x→¬ x.atom≥0→te g j 0
 | test {j k l:Nat} {x:bJ} {a b:Nat}:g[j]? = some x→x.atom≥0→x.no=(k:Int)→x.yes=(l:Int)→te g k a→te g l b→te g j (1+max a b)
theorem te.fi {g:List bJ} (au:rM g) {j a:Nat} (h:te g j a):(Go.Proofs.YtnafpeohfbglmaaGreat.fi 0 g).getD j 0=(a:Int):=by
 induction h with
 | leaf aO a8=>rw [O5 aO,f0 a8];rfl
 | test aO a8 U ad _ _ Ii Ij=>
  rename_i j k l x a b _ _;have av:=au.eX j x aO a8;rw [O5 aO,f9 a8,show j+1+(x.no.toNat-(j+1))=k by omega,show j+1+(x.yes.toNat-(j+1))=l by omega,Ii,Ij];omega
theorem nf.oT {g:List bJ}:∀ {t:ca} {gD j:Nat},nf g t gD j→te g j t.j7
  | .leaf ms,gD,j,h=>by
    rw [nf] at h;exact te.leaf h.2 (by show ¬ ((-1:Int)≥0);omega)
  | .test i a b,gD,j,h=>by
    rw [nf] at h;obtain ⟨-,x,y,U,ad,al⟩:=h;rw [ca.j7];exact te.test U (ap9 i) C C ad.oT al.oT
theorem Z' (p:bK) (aE:fD p) (n:Int):aU d0 32 [cW p,.int .i64 n] (.bool (fs p&&l6 p n)):=by
 have an:=bC;refine aU.bn aj Tryz.func32 C C fun s I=>?_
 have U:=GQ p aE;cases eL:fs p with
 | false=>
  rw [eL] at U;unfold cW cV at *;refine cD ?_;exact bA I
 | true=>
 rw [eL] at U;rw [f4];unfold l6;unfold cW cV bk at *;by_cases bo:n≥0
 ·refine cD ?_
  refine aa.dW 11 C (i6 bo) ?_;rw [i6 bo,f4];refine dY ?_;exact Fin.cL I C (aR.of_eq (ac5 af.bool bc))
 ·refine cD ?_
  refine aa.dc 11 C (H1 bo) ?_;rw [H1 bo,f7];refine dT ?_;exact bA I
structure Iy (w w':bw):Prop where
 ps:∃ l,w'.ps=w.ps++[l]
 owner:∃ o,w'.owner=w.owner++o
theorem O6 (ps:List (List Int)) (l:List Int):∀ (m:Nat) (f:Nat→Bool),m≤ps.length→gG (ps++[l]) m f=gG ps m f
  | 0,f,_=>rfl
  | m+1,f,h=>by
    rw [gG,gG,O6 ps l m _ ag];rw [d5,ad3 ag,← d5]
theorem aaa (ps:List (List Int)) (l:List Int) (f:Nat→Bool) (h:f (3+ps.length)=false):gG (ps++[l]) (ps++[l]).length f=gG ps ps.length f:=by
 rw [d9,ac8,gG,O6 ps l _ _ (i0 _)];congr 1;funext k;rw [h,f7,ak5]
theorem aab {w:bw} {f:aq} (aA:hi w f=true) (aB:f.c7=true):∀ s∈f.path,0≤s∧s<(w.owner.length:Int):=by
 simp only [hi,aB,ae2,f6,g8,ae'] at aA;intro s ao;exact aA.2.2.2.2.2.2.1 s ao
theorem aac {w:bw} {f:aq} (aA:hi w f=true) (aB:f.c7=true) (ad:f.op=2):0≤f.cls∧f.cls<3+(w.ps.length:Int):=by
 simp only [hi,aB,ad,ae2,f6,g8,ae'] at aA;exact aA.2.2.2.2.2.2.2.2
theorem aad {w:bw} {L:List ch} (bY:nP w L) {arg:Int} {path:List Int} {s:Nat} (ao:w.owner.length≤s):qy L arg path (s:Int)=false:=by
 unfold qy;rw [ah'];intro x ab;obtain ⟨U,ad⟩:=bY x ab;intro h;unfold sX GS at h;simp only [f6,g8,aj1] at h;have hm:(s:Int)∈x.1.path.take (path++[(s:Int)]).length:=by rw [h.2.2];simp
 have hm:=am5 hm;have:=aab U ad _ hm;omega
theorem O7 {w:bw} {L:List ch} (bY:nP w L) (arg:Int) (path:List Int) (k:Nat):kG (w.owner.length+k) L arg path=kG w.owner.length L arg path:=by
 unfold kG
 induction k with
 | zero=>rfl
 | succ k aX=>
  rw [← ak4,an5,ap5,List.filter_cons_of_neg (by rw [aad bY (Nat.le_add_right _ _)];simp),ap4,List.append_nil,aX]
theorem O8 {n:Nat} {L:List ch} {arg:Int} {path:List Int} {s:Int} (h:s∈kG n L arg path):∃ k:Nat,s=(k:Int)∧k<n:=by
 unfold kG at h;obtain ⟨k,aD,rfl⟩:=ad2.1 h;exact ⟨k,rfl,ah6.1 (af4.1 aD).1⟩
theorem O9 {w w':bw} (hm:Iy w w') {L:List ch} (cn:List Int→Bool) (arg:Int) (path:List Int):∀ (l:List Int) (a:(Nat→Bool)×(Nat→Bool)),(∀ s∈l,∃ k:Nat,s=(k:Int)∧k<w.owner.length)→oI w' L cn arg path l a=oI w L cn arg path l a
  | [],a,_=>rfl
  | s::r,a,h=>by
    obtain ⟨k,rfl,aD⟩:=h s i5;obtain ⟨o,ah⟩:=hm.owner;have e:w'.owner.getD k 0=w.owner.getD k 0:=by
      rw [ah,d5,ad3 aD,← d5]
    rw [oI,oI];simp only [ac3,e];split
    · rfl
    · exact O9 hm cn arg path r _ (fun s ao=>h s (g7 _ ao))
theorem O' {w:bw} (hw:fQ w) {L:List ch} (cn:List Int→Bool) (arg:Int) (path:List Int):∀ (l:List Int) (a b:(Nat→Bool)×(Nat→Bool)),(∀ s∈l,∃ k:Nat,s=(k:Int)∧k<w.owner.length)→oI w L cn arg path l a=some b→a.1 (3+w.ps.length)=false→a.2 (3+w.ps.length)=false→b.1 (3+w.ps.length)=false∧b.2 (3+w.ps.length)=false
  | [],a,b,_,h,U,ad=>by rw [oI] at h;cases h;exact ⟨U,ad⟩
  | s::r,a,b,ao,h,U,ad=>by
    obtain ⟨k,rfl,aD⟩:=ao s i5;have ah:=hw.own (w.owner.getD k 0) (by rw [d5,f8 aD];exact ak3 aD);have cp:¬ (3+w.ps.length=(w.owner.getD k 0).toNat):=by omega
    rw [oI] at h;simp only [ac3] at h;split at h
    · cases h
    · refine O' hw cn arg path r _ b (fun s gY=>ao s (g7 _ gY)) h ?_ ?_
      · simp only
        split
        · exact U
        · simp only [f0 cp];exact U
      · simp only
        split
        · exact ad
        · simp only [f0 cp];exact ad
theorem Pa {w:bw} {L:List ch} (bY:nP w L):∀ (l:List ch) (a b:(Nat→Bool)×(Nat→Bool)),(∀ x∈l,x∈L)→qz l a=some b→a.1 (3+w.ps.length)=false→a.2 (3+w.ps.length)=false→b.1 (3+w.ps.length)=false∧b.2 (3+w.ps.length)=false
  | [],a,b,_,h,U,ad=>by rw [qz] at h;cases h;exact ⟨U,ad⟩
  | x::r,a,b,ao,h,U,ad=>by
    obtain ⟨g1,g2⟩:=bY x (ao x i5);rw [qz] at h;have go:=fun a=>Pa bY r a b (fun y ax=>ao y (g7 _ ax))
    split at h
    · split at h
      · exact go _ h U ad
      · cases h
    · rename_i aF
      have ah:x.1.op=2:=Classical.byContradiction fun h=>aF (.inl h)
      have cu:=aac g1 g2 ah;have cp:¬ (3+w.ps.length=x.1.cls.toNat):=by omega
      split at h
      · refine go _ h U ?_
        simp only [f0 cp];exact ad
      · refine go _ h ?_ ad
        simp only [f0 cp];exact U
section
variable {w w':bw} (hw:fQ w) (hm:Iy w w') {L:List ch} (bY:nP w L)
include hw hm bY
theorem aae (cn:List Int→Bool) (arg:Int) (path:List Int):xV w' L cn arg path=xV w L cn arg path:=by
 obtain ⟨l,aB⟩:=hm.ps;obtain ⟨o,ah⟩:=hm.owner;have b7:kG w'.owner.length L arg path=kG w.owner.length L arg path:=by rw [ah,d9,O7 bY]
 unfold xV;rw [b7];cases U:qz (gy L arg path) (fun _=>false,fun _=>false) with
 | none=>rfl
 | some a=>
  have a8:=Pa bY _ _ _ (fun x ab=>(af4.1 ab).1) U C C;have bR:=O9 (L:=L) hm cn arg path (kG w.owner.length L arg path) a (fun s ao=>O8 ao);simp only [bR];cases ad:oI w L cn arg path (kG w.owner.length L arg path) a with
  | none=>rfl
  | some b=>
   obtain ⟨pt,lf⟩:=O' hw cn arg path _ _ _ (fun s ao=>O8 ao) ad a8.1 a8.2;simp only;rw [aB,aaa _ _ _ (by show (if _ then false else _)=false;split;rfl;exact pt)];congr 1;rw [d9,ac8,← ak4,an5,List.all_append,aj6,List.all_nil,lf,ai5,ah3,am8,am8]
theorem Pb (arg:Int):∀ (k:Nat) (path:List Int),rD w' L arg k path=rD w L arg k path
  | 0,_=>rfl
  | k+1,path=>by
    obtain ⟨o,ah⟩:=hm.owner;have aA:w'.owner.length=w.owner.length+o.length:=by rw [ah,d9]
    have e:ug w'.owner.length L arg path=ug w.owner.length L arg path:=by unfold ug;rw [aA,O7 bY]
    have b7:xT w'.owner.length L arg path=xT w.owner.length L arg path:=by unfold xT;rw [e]
    have bR:xU w'.owner.length L arg path=xU w.owner.length L arg path:=by unfold xU;rw [e]
    have eE:rD w' L arg k=rD w L arg k:=funext fun q=>Pb arg k q
    rw [rD,rD,b7,bR,aae hw hm bY,eE]
theorem aaf:Ap w' L=Ap w L:=by
 unfold Ap;congr 1;funext a;exact Pb hw hm bY _ _ _
end
theorem aag {w w':bw} (hw:fQ w) (h2:fQ w') (hm:Iy w w') {A:List aq} (lj:iS w A) (aah:iS w' A) (hn:A.length≤7):hA w' A=hA w A:=by
 unfold hA;congr 1;funext v;have U:=(O3 lj hn v).2;have ad:=(O3 aah hn v).2;show mF w' (ec (wx A v))=mF w (ec (wx A v));rw [← OZ h2 ad,← OZ hw U,aaf hw hm U]
theorem Iz {α:Type} {e:α→α→Bool} (he:∀ x,e x x=true):∀ l:List α,kc e l l=true
 | []=>rfl
 | x::r=>by rw [kc,Iz he r,he x];rfl
theorem Pc {p q:bK} {n:Int} (he:eK q n=eK p n) (lj:cF q n=cF p n) (yo:eK p n=0→hA (b3 q) (cF p n)=hA (b3 p) (cF p n)) (e7:∀ v,dA q n (cF p n) v=dA p n (cF p n) v):yp p q n n=true:=by
 unfold yp;rw [he];by_cases bo:eK p n=0
 ·have an:qO q n=qO p n:=by
   unfold qO;rw [C9,C9,lj,yo bo];congr 3;exact funext e7
  rw [lj,yo bo,an,Iz HV,Iz (fun x=>by simp)];simp
 ·rw [i6 C,i6 bo];rfl
theorem aai {p q:bK} {n:Int} (aE:fs p=true) (bp:fs q=true) {x:e3} (aF:q.bT=p.bT++[x]) (au:q.cR=p.cR) (h5:q.methods=p.methods):yp p q n n=true:=by
 have lj:cF q n=cF p n:=by unfold cF;rw [h5]
 have he:eK q n=eK p n:=by unfold eK l6;rw [aE,bp,lj,au]
 refine Pc he lj (fun bo=>?_) (fun v=>by unfold dA;rw [h5]);obtain ⟨-,hn,dP,-,-⟩:=rU bo;have Pd:=(NN bp n).1;rw [lj] at Pd;refine aag (uA aE) (uA bp) ⟨⟨x.parents,?_⟩,⟨(eQ p.bT.length [x]),?_⟩⟩ dP Pd hn
 ·show q.bT.map e3.parents=p.bT.map e3.parents++[x.parents]
  rw [aF,ac2];rfl
 ·show eQ 0 q.bT=eQ 0 p.bT++_
  have:∀ (l:List e3) (i:Nat),eQ i (l++[x])=eQ i l++eQ (i+l.length) [x]:=fun l=>by
   induction l with
   | nil=>intro i;rw [d7,ae1,am4];rfl
   | cons c r aX=>
    intro i;show t6 c.bj.length ((i:Int)+3)++eQ (i+1) (r++[x])=(t6 c.bj.length ((i:Int)+3)++eQ (i+1) r)++eQ (i+(c::r).length) [x];rw [aX,List.append_assoc,i7,show i+1+r.length=i+(r.length+1) by omega]
  rw [aF,this,ad8]
theorem aaj {p r:bK} {n:Int} (aE:fs p=true) (aC:fs r=true) (uw:l6 p n=true) {m:gP} {g:Int} (aF:r.bT=p.bT) (au:r.cR=p.cR++[g]) (h5:r.methods=p.methods++[m]) (hm:m.gen=(p.cR.length:Int)):yp p r n n=true:=by
 have cp:¬ m.gen=n:=by
  unfold l6 at uw;simp only [f6,g8] at uw;omega
 have aak:l6 r n=true:=by
  unfold l6 at uw ⊢;simp only [f6,g8] at uw ⊢;rw [au,d9,ac8];omega
 have lj:cF r n=cF p n:=by
  unfold cF;rw [h5,an'];show (if m.gen=n then _ else _)=_;rw [f0 cp]
 have he:eK r n=eK p n:=by unfold eK;rw [aE,aC,lj,uw,aak]
 have hw:b3 r=b3 p:=by unfold b3 gH;rw [aF]
 refine Pc he lj (fun _=>by rw [hw]) (fun v=>?_);have:∀ (l:List gP) (i:Nat),m' n (cF p n) v i (l++[m])=m' n (cF p n) v i l:=fun l=>by
  induction l with
  | nil=>
   intro i;rw [d7,m',m'];simp [cp,m']
  | cons c s aX=>intro i;rw [t8,m',m',aX]
 unfold dA;rw [h5,this]
theorem aal (l:List e3):∀ y∈l.map gI,iK 3 y=true:=Tt l
theorem aam (l:List e3) (own:bN) (aB:l.length<bt):bz d0 44 [.ay 3 (l.map gI) own] [] (fun o K=>∃ c5,o = .ret (.ay 3 (l.map gI) c5)∧K=[(c5,.row 76 3 l.length)]):=by
 have an:=bC;refine bz.bn aj Tryz.func44 C C fun s I=>?_
 refine dz ?_;refine aa.op C C C (aW.vL aj C C C C (X:=fun _ _=>False)) ?_ (fun _ _ h=>False.elim h);rintro r ai ⟨rfl,⟨rfl,aA⟩|rfl⟩
 ·have me:l.length=0:=by simpa using ac5 ap' aA
  refine aa.ik I 76 3 0 fun I=>?_
  refine dT ?_;rw [aA,me];exact Fin.bu I C (aR.nil hh) (aH.all _) ⟨.nil,rfl,rfl⟩
 ·refine bG ?_
  refine aa.sK I 76 3 0 fun I=>?_
  refine aa.m1 aj I C C C C C C C ef C C C C (.inr C) C (aal l) C .here C (n':=l.length) bc (by simp only [ae1,ad8,f5];show _*72≤_;omega) vN (fun lX I=>?_);refine dY ?_;exact Fin.bu I C aM (aH.all _) ⟨lX,rfl,rfl⟩
theorem aan (l:List Int):∀ y∈l.map bb,iK 1 y=true:=Ga l
theorem aao (l:List Int) (own:bN) (aB:l.length<bt):bz d0 47 [.ay 1 (l.map bb) own] [] (fun o K=>∃ c5,o = .ret (.ay 1 (l.map bb) c5)∧K=[(c5,.row 3 1 l.length)]):=by
 have an:=bC;refine bz.bn aj Tryz.func47 C C fun s I=>?_
 refine dz ?_;refine aa.op C C C (aW.vL aj C C C C (X:=fun _ _=>False)) ?_ (fun _ _ h=>False.elim h);rintro r ai ⟨rfl,⟨rfl,aA⟩|rfl⟩
 ·have me:l.length=0:=by simpa using ac5 ap' aA
  refine aa.ik I 3 1 0 fun I=>?_
  refine dT ?_;rw [aA,me];exact Fin.bu I C (aR.nil hh) (aH.all _) ⟨.nil,rfl,rfl⟩
 ·refine bG ?_
  refine aa.sK I 3 1 0 fun I=>?_
  refine aa.m1 aj I C C C C C C C ef C C C C (.inr C) C (aan l) C .here C (n':=l.length) bc F4 vN (fun lX I=>?_);refine dY ?_;exact Fin.bu I C aM (aH.all _) ⟨lX,rfl,rfl⟩
theorem aap (l:List hX):∀ y∈l.map gj,iK 3 y=true:=Tu l
theorem aaq (l:List hX) (own:bN) (aB:l.length<bt):bz d0 48 [.ay 3 (l.map gj) own] [] (fun o K=>∃ c5,o = .ret (.ay 3 (l.map gj) c5)∧K=[(c5,.row 85 3 l.length)]):=by
 have an:=bC;refine bz.bn aj Tryz.func48 C C fun s I=>?_
 refine dz ?_;refine aa.op C C C (aW.vL aj C C C C (X:=fun _ _=>False)) ?_ (fun _ _ h=>False.elim h);rintro r ai ⟨rfl,⟨rfl,aA⟩|rfl⟩
 ·have me:l.length=0:=by simpa using ac5 ap' aA
  refine aa.ik I 85 3 0 fun I=>?_
  refine dT ?_;rw [aA,me];exact Fin.bu I C (aR.nil hh) (aH.all _) ⟨.nil,rfl,rfl⟩
 ·refine bG ?_
  refine aa.sK I 85 3 0 fun I=>?_
  refine aa.m1 aj I C C C C C C C ef C C C C (.inr C) C (aap l) C .here C (n':=l.length) bc (by simp only [ae1,ad8,f5];show _*40≤_;omega) vN (fun lX I=>?_);refine dY ?_;exact Fin.bu I C aM (aH.all _) ⟨lX,rfl,rfl⟩
theorem aar (l:List gP):∀ y∈l.map jf,iK 9 y=true:=Tv l
theorem aas (l:List gP) (own:bN) (aB:l.length<bt):bz d0 49 [.ay 9 (l.map jf) own] [] (fun o K=>∃ c5,o = .ret (.ay 9 (l.map jf) c5)∧K=[(c5,.row 89 9 l.length)]):=by
 have an:=bC;refine bz.bn aj Tryz.func49 C C fun s I=>?_
 refine dz ?_;refine aa.op C C C (aW.vL aj C C C C (X:=fun _ _=>False)) ?_ (fun _ _ h=>False.elim h);rintro r ai ⟨rfl,⟨rfl,aA⟩|rfl⟩
 ·have me:l.length=0:=by simpa using ac5 ap' aA
  refine aa.ik I 89 9 0 fun I=>?_
  refine dT ?_;rw [aA,me];exact Fin.bu I C (aR.nil hh) (aH.all _) ⟨.nil,rfl,rfl⟩
 ·refine bG ?_
  refine aa.sK I 89 9 0 fun I=>?_
  refine aa.m1 aj I C C C C C C C ef C C C C (.inr C) C (aar l) C .here C (n':=l.length) bc (by simp only [ae1,ad8,f5];show _*104≤_;omega) vN (fun lX I=>?_);refine dY ?_;exact Fin.bu I C aM (aH.all _) ⟨lX,rfl,rfl⟩
section
variable {J:ak→Prop} {P:Program} {Γ:cj} {N:Nat} {l rest:List Oper} {Q:bX→Env→ak→Prop} {env:Env} {s:ak} {o:Oper} {d i m:Nat}
theorem bh.rem (i:Nat) (cZ:J s) {t yt:TypeId} {x y:Operand} {k:IntKind} {a b:Int} (r:Int) (aC:h6 l.toArray m i=true) (ah:l.toArray[i]? = some o) (av:o.dst=some d) (aY:i9 d N=true)
  (au:cY l env o) (bV:o.op = .binOp .rem t x y yt) (ab:aJ (bU l env o) x=some (.int k a)) (ax:aJ (bU l env o) y=some (.int k b)) (an:b≠0) (he:a.tmod b=r)
  (h:bh J P Γ N l.toArray Q (bQ (m|||2^i)) ((d,.int k r)::env) s):bh J P Γ N l.toArray Q (bQ m) env s:=
 bh.p5 cZ aC ah av aY au (fun _ _=>aW.rem bV ab ax an he) h
theorem aL.rem {t yt:TypeId} {x y:Operand} {k:IntKind} {a b:Int} (r:Int) (au:cY l env o) (av:o.dst=some d) (aY:i9 d N=true) (bV:o.op = .binOp .rem t x y yt) (ab:aJ (bU l env o) x=some (.int k a)) (ax:aJ (bU l env o) y=some (.int k b)) (an:b≠0) (he:a.tmod b=r)
  (h:aL J P Γ N l (i+1) rest Q ((d,.int k r)::env) s):aL J P Γ N l i (o::rest) Q env s:=
 aL.calm au av aY (fun _ _=>aW.rem bV ab ax an he) h
end
def IA (l:List Int):af := .ay 1 (l.map fun b:Int=>af.int .u8 b) .aZ
def yx (p:bK) (ps:List Int):bK:={ p with bT:=p.bT++[⟨ps,[p.bj],[]⟩],bj:=p.bj+1 }
def yy (p:bK):bK:={ p with cR:=p.cR++[1],methods:=p.methods++[⟨1,(p.cR.length:Int),rV 1,(p.nodes.length:Int)⟩],nodes:=p.nodes++[⟨2,0,[]⟩] }
theorem aat {p:bK} (h:fs p=true):0≤p.bj∧p.bj≤40∧p.bT.length≤10:=by
 have aF:=ND h;have hw:=uA h;unfold nG at aF;simp only [f6,g8,aj1] at aF;have U:=(Cw (i:=0) aF.2.1).1;have ad:=hw.bj;have al:(b3 p).owner=eQ 0 p.bT:=rfl;rw [al] at ad;omega
theorem Pe {p:bK} (aE:fD p) (aF:p.bT.length<10) {ps:List Int} (nm:ps.length<bt):fD (yx p ps):=by
 have an:=bC;refine ⟨?_,fun c ab=>?_,aE.cR,aE.xK,aE.facts,aE.nodes,aE.kids⟩
 ·show (p.bT++[_]).length<bt
  rw [d9,ac8];omega
 ·rcases ac7.1 (show c∈p.bT++[_] from ab) with ab|ab
  ·exact aE.each c ab
  ·rw [t7.1 ab]
   exact ⟨nm,by simp [an],by simp [an]⟩
theorem Pf {p:bK} (aE:fD p) (au:p.cR.length<8) (hm:p.methods.length<16) (aA:p.nodes.length<120):fD (yy p):=by
 have an:=bC;refine ⟨aE.cls,aE.each,?_,?_,fun m ab=>?_,?_,fun x ab=>?_⟩
 ·show (p.cR++[_]).length<bt
  rw [d9,ac8];omega
 ·show (p.methods++[_]).length<bt
  rw [d9,ac8];omega
 ·rcases ac7.1 (show m∈p.methods++[_] from ab) with ab|ab
  ·exact aE.facts m ab
  ·rw [t7.1 ab];show 3*(rV 1).size+3<bt;decide
 ·show (p.nodes++[_]).length<bt
  rw [d9,ac8];omega
 ·rcases ac7.1 (show x∈p.nodes++[_] from ab) with ab|ab
  ·exact aE.kids x ab
  ·rw [t7.1 ab];simp [an]
theorem abz (p:bK) (aE:fD p) (n:Int) (b9:List Int) (kj:b9.length<bt):aU d0 8 [cW p,.int .i64 n,IA b9] (.bool true):=by
 have an:=bC;have eg:=ZJ ();have U:=Z' p aE n;have aau:cV p=[.ay 3 (p.bT.map gI) .aZ,.int .i64 p.bj,bk p.cR,.ay 9 (p.methods.map jf) .aZ,.ay 3 (p.nodes.map gj) .aZ,.int .i64 p.main]:=rfl;refine aU.bn aj Tryz.func8 C C fun s I=>?_
 unfold IA;cases n2:fs p&&l6 p n with
 | false=>
  rw [n2] at U;unfold cW cV at *;refine cD ?_;exact bA I
 | true=>
 rw [n2] at U;rw [f6] at n2;obtain ⟨Io,abA,abB⟩:=aat n2.1;have hx:=wI n2.1;have e7:=fun (au:p.cR.length<8) (hm:p.methods.length<16) (aA:p.nodes.length<120)=>GQ (yy p) (Pf aE au hm aA)
 have b6:=fun (au:p.cR.length<8) (hm:p.methods.length<16) (aA:p.nodes.length<120)=>OC p (yy p) aE (Pf aE au hm aA) n n
 have aav:=aao p.cR .aZ aE.cR;have sV:=aaq p.nodes .aZ aE.nodes;have Dr:=aas p.methods .aZ aE.xK;have sS:=aam p.bT .aZ aE.cls;have D1:=DT 1;rw [aq.cE] at D1;unfold aq.cells rV at D1;simp only [aq.op,aq.arg,aq.path,aq.cls,aq.n,aq.kids,ae3] at D1;unfold cW at *;rw [aau] at *;unfold bk at *
 repeat (first|(refine Si I ?_;clear I;intro I)|refine aa.dO aj I rfl rfl rfl rfl rfl rfl rfl (fun cy I=>?_)|(refine oi ?_))
 obtain ⟨acg,rfl⟩:∃ x,x=cy:=⟨_,rfl⟩;refine ae.vw (σ:=Unit) (fun _=>[(1,.int .i64 n),(3,.bs [.ay 3 (p.bT.map gI) .aZ,.int .i64 p.bj,.ay 1 (p.cR.map bb) .aZ,.ay 9 (p.methods.map jf) .aZ,.ay 3 (p.nodes.map gj) .aZ,.int .i64 p.main] 0)]) (fun _=>[]) (fun _=>True) ?_ ?_;rotate_left
 ·rintro ⟨⟩-I
  try simp only at I ⊢
  repeat (first|(refine JT I ?_;clear I;intro I)|refine aa.dO aj I rfl rfl rfl rfl rfl rfl rfl (fun cy I=>?_))
  obtain ⟨aca,rfl⟩:∃ x,x=cy:=⟨_,rfl⟩;by_cases g1:p.cR.length<8;rotate_left
  ·refine aa.dc 90 C cO ?_
   refine di ?_;exact bA I
  refine aa.dW 90 C cO ?_;refine dD ?_;by_cases g2:p.methods.length<16;rotate_left
  ·refine aa.dc 96 C cO ?_
   refine di ?_;exact bA I
  refine aa.dW 96 C cO ?_;refine ga ?_;refine ae.cond C (fun g3=>?_) (fun g3=>?_);rotate_left
  ·refine di ?_
   exact bA I
  have g3:p.nodes.length<120:=by simp at g3;omega
  have e7:=e7 g1 g2 g3;have b6:=b6 g1 g2 g3;refine j6 ?_;refine aa.bZ rfl rfl rfl rfl rfl aav I .nil ?_ (fun _ _ h _=>by obtain ⟨_,h,_⟩:=h;cases h);rintro _ _ ⟨acn,⟨⟩,rfl⟩ I;simp only [t8,d7] at I ⊢;refine dD ?_;refine aa.gq aj I C C C C C C C ef C C C C C C C C aV h7 kX ag (fun rq I=>?_);refine cm I ?_;intro I;refine aa.bZ rfl rfl rfl rfl rfl sV I .nil ?_ (fun _ _ h _=>by obtain ⟨_,h,_⟩:=h;cases h);rintro _ _ ⟨on,⟨⟩,rfl⟩ I;simp only [t8,d7] at I ⊢;refine dD ?_;refine aa.mZ 112 (.ay 3 [gj ⟨2,0,[]⟩] .aZ) C (aR.ay (.one (aR.agg (.cons aM (.cons aM (.one aR.empty)))))) ?_;refine aa.gq aj I C C C C C C C ef C C C C C C C C aV h7 (by show (_+1)*40≤_;omega) ag (fun b2 I=>?_);refine cm I ?_;intro I;refine ae.nu (fun _=>True) aj mixed C (bh.run trivial C ?_);refine bh.bZ (i:=2) rfl rfl rfl rfl rfl rfl rfl Dr I .nil (fun _ _ _ _ => .inl trivial) ?_ (fun _ _ h _=>by obtain ⟨_,h,_⟩:=h;cases h);rintro _ _ ⟨ab4,⟨⟩,rfl⟩ I;simp only [t8,d7] at I ⊢;refine bh.run trivial C ?_;refine bh.zj (i:=6) trivial C C C C C C C D1 ?_;refine bh.run trivial C ?_;refine bh.gq 12 aj I C C C C C C C C C ef C C C C C C C C aV bc (by show (_+1)*104≤_;omega) ag (fun eJ I => .inl trivial) (fun eJ I=>?_);refine bh.run trivial C ?_;refine bh.cN 14 aj I C C C C C C C C C C C aV C (fun I => .inl trivial) (fun I=>?_);refine ba.done C ?_;refine cm I ?_;intro I;have ko:aR (.agg [.ay 3 (p.bT.map gI) .aZ,.int .i64 p.bj,.ay 1 (p.cR.map bb++[.int .i64 1]) (.own rq),.ay 9 (p.methods.map jf++[.agg [.int .i64 1,.int .i64 (p.cR.map bb).length,.int .i64 2,.int .i64 0,.ay 1 [] .aZ,.int .i64 1,.int .i64 0,.ay 6 [] .aZ,.int .i64 (p.nodes.map gj).length]]) eJ,.ay 3 (p.nodes.map gj++[gj ⟨2,0,[]⟩]) (.own b2),.int .i64 p.main]) (cW (yy p)):=by
   rw [f5,f5];unfold cW cV yy bk;simp only [ac2,ac0,ae3];exact aR.agg (.cons aM (.cons aM (.cons aR.aZ (.cons aR.aZ (.cons aR.aZ (.one aM))))))
  refine aa.iO C C C C C e7 (.one ko) ?_;cases aC:fs (yy p) with
  | false=>
   refine di ?_;exact bA I
  | true=>
  rw [aaj n2.1 aC n2.2 (m:=⟨1,(p.cR.length:Int),rV 1,(p.nodes.length:Int)⟩) (g:=1) C C C C] at b6;refine cm I ?_;intro I;refine aa.iO C C C C C b6 (.cons aM (.cons ko (.cons aM (.one aM)))) ?_;refine di ?_;exact bA I
 refine ae.cond C (fun cP=>?_) (fun cP=>?_);rotate_left
 ·refine gg ?_
  exact j4.mk () I trivial (cI C) .nil
 have cP:p.bT.length<10:=by simp at cP;omega
 have IB:=fun (ps:List Int) (h:ps.length<bt)=>GQ (yx p ps) (Pe aE cP h)
 have D2:=fun (ps:List Int) (h:ps.length<bt)=>OC p (yx p ps) aE (Pe aE cP h) n n
 repeat (first|(refine Sj I ?_;clear I;intro I)|refine aa.dO aj I rfl rfl rfl rfl rfl rfl rfl (fun cy I=>?_))
 obtain ⟨Bc,rfl⟩:∃ x,x=cy:=⟨_,rfl⟩;obtain ⟨m,hm⟩:∃ m:Nat,m=min b9.length 3:=⟨_,rfl⟩;have HZ:(if (3:Int)<((b9.map fun b:Int=>af.int .u8 b).length:Int) then (3:Int) else ((b9.map fun b:Int=>af.int .u8 b).length:Int))=(m:Int):=by rw [f5];split<;>omega
 refine aa.slice aj 0 m C C C C C C C C (.inr C) (.inl ⟨rfl,rfl⟩) (.inr ⟨_,_,rfl,ac5 (fun z=>some (af.int .i64 z)) HZ⟩) (.inl ⟨rfl,rfl⟩) (g9 _) m9 ?_;simp only [List.drop_zero,← List.map_take];have ts:(b9.take m).length≤3:=by rw [ac9];omega
 generalize b9.take m=cs at *;refine ej ?_;refine ae.ik I 3 1 0 fun I=>?_
 refine ae.oL I [.ay 1 [] .nil,.ay 1 [.int .i64 p.bj] .aZ,.ay 2 [] .aZ] (kb:=Bc) aV (.cons (aR.nil hh) (.cons aR.aZ (.one aR.empty))) (fun I=>?_);refine ae.cl [1,3,7,8,31,32] C I (σ:=Nat×List Int×bN) (fun q=>[(33,.int .i64 (q.1:Int))]) (fun q=>[(.own Bc,.box 76 [.ay 1 (q.2.1.map bb) q.2.2,.ay 1 [.int .i64 p.bj] .aZ,.ay 2 [] .aZ]),(q.2.2,.row 3 1 q.2.1.length),(.own acg,.box 27 [.ay 3 (p.bT.map gI) .aZ,.int .i64 p.bj,.ay 1 (p.cR.map bb) .aZ,.ay 9 (p.methods.map jf) .aZ,.ay 3 (p.nodes.map gj) .aZ,.int .i64 p.main])]) (fun q=>q.1≤cs.length∧q.2.1.length≤q.1) (fun q=>cs.length-q.1) (0,[],.nil) ⟨g9 _,i0 _⟩ (cI C) a7 ?_;rintro ⟨j,ps,oE⟩ ⟨aO,ig⟩ I;simp only at aO ig I ⊢;refine ck ?_;refine ae.cond C (fun az=>?_) (fun a'=>?_);rotate_left
 ·have IB:=IB ps ag
  have D2:=D2 ps ag;refine sw ?_;refine ae.oL I (lv ⟨ps,[p.bj],[]⟩) (kb:=Bc) aV (.cons aR.aZ (.cons aM (.one aM))) (fun I=>?_);unfold lv bk at I ⊢;simp only [ac0,ae3] at I ⊢;refine ae.nu (cQ [(Bc,_)]) aj mixed C (bh.run (cQ.one (bl.get aV I)) C ?_);refine bh.mo 3 aj (cQ.one (bl.get aV I)) C C C C C C C C (fun _ h=>cQ.fst h) b1 ?_;refine bh.run (cQ.one (bl.get aV I)) C ?_;refine bh.bZ (i:=2) rfl rfl rfl rfl rfl rfl rfl sS I .nil (fun _ _ ⟨_,_,h⟩ I=>by subst h;exact .inl (cQ.one (bl.get aV I))) ?_ (fun _ _ h _=>by obtain ⟨_,h,_⟩:=h;cases h);rintro _ _ ⟨ab7,⟨⟩,rfl⟩ I;simp only [t8,d7] at I ⊢;refine bh.run (cQ.one (bl.get aV I)) C ?_;refine bh.gq 5 aj I C C C C C C C C C ef C C C C C C C C aV bc (by show (_+1)*72≤_;omega) ag (fun eJ I => .inl (cQ.one (bl.get aV I))) (fun eJ I=>?_);refine bh.run (cQ.one (bl.get aV I)) C ?_;refine bh.cN 7 aj I C C C C C C C C C C C aV C (fun I => .inr C) (fun I=>?_);refine ba.done C ?_;refine cm I ?_;intro I;have ko:aR (.agg [.ay 3 (p.bT.map gI++[.agg [.ay 1 (ps.map bb) .aZ,.ay 1 [bb p.bj] .aZ,.ay 2 [] .aZ]]) eJ,.int .i64 (aa' .i64 (p.bj+1)),.ay 1 (p.cR.map bb) .aZ,.ay 9 (p.methods.map jf) .aZ,.ay 3 (p.nodes.map gj) .aZ,.int .i64 p.main]) (cW (yx p ps)):=by
   rw [er ag ag];unfold cW cV yx bk;simp only [ac2,ac0,ae3];exact aR.agg (.cons aR.aZ (.cons aM (.cons aM (.cons aM (.cons aM (.one aM))))))
  refine aa.iO C C C C C IB (.one ko) ?_;cases aC:fs (yx p ps) with
  | false=>
   refine bG ?_;exact j4.mk () I trivial (cI C) .nil
  | true=>
  rw [aai n2.1 aC (x:=⟨ps,[p.bj],[]⟩) C C C] at D2;refine cm I ?_;intro I;refine aa.iO C C C C C D2 (.cons aM (.cons ko (.cons aM (.one aM)))) ?_;refine bG ?_;exact j4.mk () I trivial (cI C) .nil
 have az:j<cs.length:=by simpa using az
 obtain ⟨b,ab,ct⟩:=cf (f:=fun b:Int=>af.int .u8 b) az;refine cD ?_;by_cases c9:0<p.bT.length;rotate_left
 ·refine aL.split 42 C (fun h=>absurd (ah1 h) m9) (fun _=>?_)
  refine jF ?_;exact bF.mk (j+1,ps,oE) I ⟨az,by show ps.length≤j+1;omega⟩ cC a7 CE
 refine aL.split 42 C (fun _=>?_) (fun h=>absurd (of_decide_eq_false h) m9);refine cm I ?_;intro I;refine aL.rem _ C C C C C C m9 C ?_;refine kW ?_;refine aL.iO C C C C C (vH ps _ ag) (.cons aR.aZ (.one aM)) ?_;refine jF ?_;refine ae.cond C (fun eP=>?_) (fun eP=>?_);rotate_left
 ·refine gg ?_
  exact bF.mk (j+1,ps,oE) I ⟨az,by show ps.length≤j+1;omega⟩ cC a7 CE
 skip;refine ae.nu (cQ [(Bc,_)]) aj mixed C (bh.run (cQ.one (bl.get aV I)) C ?_);refine bh.mo 1 aj (cQ.one (bl.get aV I)) C C C C C C C C (fun _ h=>cQ.fst h) b1 ?_;refine bh.run (cQ.one (bl.get aV I)) C ?_;refine bh.pure (cQ.one (bl.get aV I)) 3 C C C C C (.x C) ?_;refine bh.run (cQ.one (bl.get aV I)) C ?_;refine bh.rem 5 (cQ.one (bl.get aV I)) _ C C C C C C C C m9 C ?_;refine bh.run (cQ.one (bl.get aV I)) C ?_;refine bh.gq 8 aj I C C C C C C C C C ef C C C C C C C C aV bc kX ag (fun x9 I => .inl (cQ.one (bl.get aV I))) (fun x9 I=>?_);refine bh.run (cQ.one (bl.get aV I)) C ?_;refine bh.cN 10 aj I C C C C C C C C C C C aV C (fun I => .inr C) (fun I=>?_);refine ba.done C ?_;refine gg ?_;exact bF.mk (j+1,ps++[aa' .i64 (3+(aa' .i64 b).tmod ((p.bT.map gI).length:Int))],x9) I ⟨az,by show (ps++[_]).length≤j+1;rw [d9,ac8];omega⟩ xk (by simp only [d9,ac2,ac8,ac0,ae3];exact a7) CE
def kh (w:World):bO:=fun b _=>b<w.heap.size
theorem aaw (w:World):df w (kh w) (fun _=>none):=⟨(fun _ _ h=>by cases h),fun _ _ h=>h⟩
theorem add_add (a:Addr) (x y:Nat):(a.add x).add y=a.add (x+y):=by
 unfold Addr.add;by_cases ab:x=0
 ·subst ab;simp
 ·by_cases ax:y=0
  ·subst ax;simp [ab]
  ·simp [ab,ax,ak4]
theorem aax {w:World} {a:Addr} {v:Value} (h:w.cell? a=some v):a.spot=none∧a.block<w.heap.size:=by
 unfold World.cell? at h;split at h
 ·rename_i c _ _ an
  refine ⟨?_,(Array.getElem?_eq_some_iff.1 an).1⟩;cases ao:a.spot with
  | none=>rfl
  | some s=>rw [ao] at h;simp at h
 ·cases h
theorem Pg {w:World} {a:Addr} {n:Nat} {cs:List Value} (h:w.cells? 0 a n=some cs):cs.length=n∧∀ i v,cs[i]? = some v→w.cell? (a.add i)=some v:=by
 unfold World.cells? at h;rw [f9 (g9 _)] at h;refine ⟨by simpa using mapM_some_length h,fun i v ar=>?_⟩;have aS:i<n:=by
  have:=mapM_some_length h;rw [List.length_range] at this;rw [← this];exact (ac1.1 ar).1
 rw [mapM_some_get h i i (by rw [List.getElem?_range aS])];exact ar
section
variable {H:Type} {enc:TypeId×Value→H} {w:World}
theorem D3 {sz:Nat}:∀ {vs:List Value},(∀ v∈vs,v.cells.size=sz)→(flat vs).length=vs.length*sz
  | [],_=>by simp [flat]
  | v::vs,h=>by
    have:=D3 (vs:=vs) (fun u hu=>h u (g7 _ hu));have ar:=h v i5;simp only [flat,List.flatMap_cons,d9,i7] at this ⊢;rw [this,ac6,ar,Nat.add_mul,Nat.one_mul,Nat.add_comm]
theorem bD.jM {p:bO}:∀ {vs us:List Value} {xs ys:List af},bD w p vs xs→bD w p us ys→bD w p (vs++us) (xs++ys)
 | _,_,_,_,.nil,h=>h
 | _,_,_,_,.cons v x vs xs h t,k => .cons _ _ _ _ h (bD.jM t k)
theorem aay (l r:List (DataW H)):Rows.uptoBulkAll (l++r)=Rows.uptoBulkAll l+Rows.uptoBulkAll r:=by
 induction l with
 | nil=>simp [Rows.uptoBulkAll]
 | cons x l aX=>simp only [t8,Rows.uptoBulkAll,aX];omega
theorem IC {α:Type} {t e:TypeId} {sz fuel:Nat} {cs:List Value} {x:DataW H×List MemPlace} (f:α→af) (m:α→Nat) (aK : d0.underlying t=some (.slice e)) (aF : d0.cellsOf e=sz) (b':0<sz)
  (dS:∀ n cs y,n<fuel→DataW.trod enc d0 w 0 (fun _=>true) true n e cs=some y→cs.length=sz→∃ (a:α) (v:Value),v.cells.toList=cs∧Rel w (kh w) v (f a)∧m a≤Rows.uptoBulk y.1)
  (h:DataW.trod enc d0 w 0 (fun _=>true) true fuel t cs=some x) :
  ∃ (c:Value) (l:List α),cs=[c]∧Rel w (kh w) c (.ay sz (l.map f) .aZ)∧(l.map m).sum+1≤Rows.uptoBulk x.1:=by
 rcases DataW.trod_slice aK h with ⟨rfl,rfl⟩|⟨a,len,cap,elems,rest,n,rfl,rfl,rfl,an,aB,hm,hlen,Ph,gS,GB⟩
 ·exact ⟨_,[],rfl,.hL _ _ bc,by simp [Rows.uptoBulk]⟩
 ·rw [aF] at Ph gS
  have key:∀ k,k≤len→∃ (l:List α) (vs:List Value),l.length=k∧bD w (kh w) vs (l.map f)∧(∀ v∈vs,v.cells.size=sz)∧(∀ i u,(flat vs)[i]? = some u→w.cell? (a.add i)=some u) ∧
    (l.map m).sum≤Rows.uptoBulkAll ((elems.take k).map (·.1)):=by
   intro k
   induction k with
   | zero=>intro _;exact ⟨[],[],rfl,.nil,by simp,by simp [flat],by simp⟩
   | succ k aX=>
    intro aD;obtain ⟨l,vs,U,ad,al,bd,bB⟩:=aX ag;have D4:elems[k]? = some (elems[k]' ag):=f8 ag;have an:=Ph k ag;rw [D4,ar6] at an;obtain ⟨cs',hp,ax⟩:=an;obtain ⟨g1,g2⟩:=Pg hp;obtain ⟨c3,v,b7,bR,eE⟩:=dS n cs' _ (ak' n) ax g1;have eB:vs.length=k:=by rw [ad.length,f5,U]
    refine ⟨l++[c3],vs++[v],by simp [U],?_,?_,?_,?_⟩
    ·rw [ac2];exact bD.jM ad (.cons _ _ _ _ bR .nil)
    ·intro u hu
     rcases ac7.1 hu with hu|hu
     ·exact al u hu
     ·simp only [t7] at hu
      subst hu;rw [← ac6,b7,g1]
    ·intro i u hu
     have a1:flat (vs++[v])=flat vs++cs':=by simp [flat,b7]
     rw [a1] at hu;by_cases aS:i<(flat vs).length
     ·rw [ad3 aS] at hu;exact bd i u hu
     ·rw [ad6 ag,D3 al,eB] at hu
      have:=g2 _ _ hu;rw [add_add] at this;rw [D3 al,eB] at aS;rwa [show k*sz+(i-k*sz)=i by omega] at this
    ·rw [ak7,D4]
     simp only [Option.toList_some,ac2,ac0,ae3,aay,List.sum_append,an8,List.sum_nil,Rows.uptoBulkAll];omega
  obtain ⟨l,vs,U,ad,al,bd,bB⟩:=key len (i0 _);have eB:vs.length=len:=by rw [ad.length,f5,U]
  refine ⟨_,l,rfl,?_,?_⟩
  ·have mV:maxLen=9223372036854775807:=rfl
   by_cases j1:cap=0
   ·have me:len=0:=by omega
    subst me;subst j1;have:l=[]:=List.eq_nil_of_length_eq_zero U;subst this;exact .ib a _ _ (.inl C)
   ·have jn:∃ v,w.cell? a=some v:=by
     by_cases me:len=0
     ·obtain ⟨aC,iW⟩:=gS rfl
      have D4:rest[0]? = some (rest[0]' ag):=f8 ag;have:=iW 0 ag;rw [D4,ar6] at this;obtain ⟨cs',hp,-⟩:=this;obtain ⟨g1,g2⟩:=Pg hp;have:=g2 0 _ (f8 ag);rw [me,add_add] at this;simp only [am4,Nat.zero_mul,Addr.add,ae2] at this;exact ⟨_,this⟩
     ·have:=bd 0 _ (f8 (by rw [D3 al,eB];exact Nat.mul_pos ag b'))
      simp only [Addr.add,ae2] at this;exact ⟨_,this⟩
    obtain ⟨v,ar⟩:=jn;obtain ⟨ao,az⟩:=aax ar;obtain ⟨g,off,spot⟩:=a;simp only at ao az;subst ao;refine .ay g off len cap sz vs _ .aZ bc (by rw [f5,U]) (fun i u hu=>⟨az,?_⟩) ad al ag aB bc bc;have:=bd i u hu;rwa [kP] at this
  ·simp only [Rows.uptoBulk]
   rw [List.take_of_length_le ag] at bB;omega
theorem trod_int {t:TypeId} {fuel:Nat} {cs:List Value} {y:DataW H×List MemPlace} (aK : d0.underlying t=some (.int .i64)) (h:DataW.trod enc d0 w 0 (fun _=>true) true fuel t cs=some y) :
  ∃ n:Int,bD w (kh w) cs [.int .i64 n]∧1≤Rows.uptoBulk y.1:=by
 obtain ⟨n,rfl,rfl,-⟩:=DataW.trod_int aK h;exact ⟨n,.cons _ _ _ _ (.int _ _) .nil,by simp [Rows.uptoBulk]⟩
theorem yz {α:Type} {t e:TypeId} {sz fuel:Nat} {cs:List Value} {x:DataW H×List MemPlace} (f:α→List af) (m:α→Nat) (aK : d0.underlying t=some (.slice e)) (aF : d0.cellsOf e=sz) (b':0<sz)
  (dS:∀ n cs y,n<fuel→DataW.trod enc d0 w 0 (fun _=>true) true n e cs=some y→∃ a:α,bD w (kh w) cs (f a)∧m a≤Rows.uptoBulk y.1)
  (h:DataW.trod enc d0 w 0 (fun _=>true) true fuel t cs=some x) :
  ∃ l:List α,bD w (kh w) cs [.ay sz (l.map fun a => .agg (f a)) .aZ]∧(l.map m).sum+1≤Rows.uptoBulk x.1:=by
 obtain ⟨c,l,rfl,U,ad⟩:=IC (fun a=>af.agg (f a)) m aK aF b' (fun n cs y aA ax _=>by
  obtain ⟨a,g1,g2⟩:=dS n cs y aA ax
  exact ⟨a,.agg cs.toArray,by simp [Value.cells],.agg _ _ (by simpa using g1),g2⟩) h
 exact ⟨l,.cons _ _ _ _ U .nil,ad⟩
theorem wR (l:List (DataW H)):Rows.uptoBulk (.agg l)=Rows.uptoBulkAll l+1:=by simp [Rows.uptoBulk]
def hc (ab8:String) (t:TypeId) (off aaz:Nat):Field:={ name:=ab8,type:=t,offset:=off,embedded:=false,tag := "", pkgPath := "", byteOffset:=aaz }
theorem aaA {t:TypeId} {fuel:Nat} {cs:List Value} {y:DataW H×List MemPlace} (aK : d0.underlying t=some (.int .i64)) (h:DataW.trod enc d0 w 0 (fun _=>true) true fuel t cs=some y) :
  ∃ (n:Int) (v:Value),v.cells.toList=cs∧Rel w (kh w) v (.int .i64 n)∧1≤Rows.uptoBulk y.1:=by
 obtain ⟨n,rfl,rfl,-⟩:=DataW.trod_int aK h;exact ⟨n,.int .i64 n,rfl,.int _ _,by simp [Rows.uptoBulk]⟩
theorem ID:∀ l:List Int,(l.map fun _=>1).sum=l.length
 | []=>rfl
 | _::r=>by rw [ac0,an8,ID r,i7];omega
theorem yA {fuel:Nat} {cs:List Value} {x:DataW H×List MemPlace} (h:DataW.trod enc d0 w 0 (fun _=>true) true fuel 23 cs=some x) :
  ∃ l:List Int,bD w (kh w) cs [bk l]∧l.length+1≤Rows.uptoBulk x.1:=by
 obtain ⟨c,l,rfl,U,ad⟩:=IC (sz:=1) (fun n=>af.int .i64 n) (fun _=>1) Tryz.underlying23 fA ag (fun _ _ _ _ h _=>aaA Tryz.underlying3 h) h;rw [ID] at ad;exact ⟨l,.cons _ _ _ _ U .nil,ad⟩
theorem Pj {α:Type}:∀ l:List α,l.length≤(l.map fun _=>1).sum
 | []=>i0 _
 | _::r=>by rw [ac0,an8,i7];have:=Pj r;omega
def bJ.weight (x:bJ):Nat:=x.ms.length+1
theorem aaB (fuel:Nat) (cs:List Value) (y:DataW H×List MemPlace) (h:DataW.trod enc d0 w 0 (fun _=>true) true fuel 69 cs=some y):∃ x:bJ,bD w (kh w) cs (hy x)∧bJ.weight x≤Rows.uptoBulk y.1:=by
 obtain ⟨xs,n,rfl,rfl,aB,hlen,a1⟩:=DataW.trod_struct Tryz.underlying69 h;have Pk : d0.cellsOf 69 = 4:=by kernel_rfl
 have qP : d0.cellsOf 3 = 1:=by kernel_rfl
 have aaC : d0.cellsOf 23 = 1:=by kernel_rfl
 rw [Pk] at aB
 match cs,aB,xs,hlen with
 | [v0,v1,v2,v3],_,[yB,wN,wO,IE],_=>
  have bo:=a1 0 (hc "Atom" 3 0 0) C;have U:=a1 1 (hc "No" 3 1 8) C;have ad:=a1 2 (hc "Yes" 3 2 16) C;have al:=a1 3 (hc "Methods" 23 3 24) C;simp only [hc,Pk,qP,aaC,ap6,as1] at bo U ad al;obtain ⟨a,g0,u5⟩:=trod_int Tryz.underlying3 bo;obtain ⟨no,g1,hU⟩:=trod_int Tryz.underlying3 U;obtain ⟨IF,g2,dL⟩:=trod_int Tryz.underlying3 ad;obtain ⟨ms,g3,mU⟩:=yA al;refine ⟨⟨a,no,IF,ms⟩,?_,?_⟩
  ·have:hy ⟨a,no,IF,ms⟩=[.int .i64 a]++([.int .i64 no]++([.int .i64 IF]++[bk ms])):=rfl
   rw [this];exact bD.jM (vs:=[v0]) g0 (bD.jM (vs:=[v1]) g1 (bD.jM (vs:=[v2]) g2 g3))
  ·simp only [wR,ac0,ae3,Rows.uptoBulkAll,bJ.weight]
   omega
theorem aaD:∀ g:List bJ,g.length≤(g.map bJ.weight).sum
 | []=>i0 _
 | x::r=>by rw [ac0,an8,i7];have:=aaD r;unfold bJ.weight at *;omega
theorem abC {fuel:Nat} {cs:List Value} {x:DataW H×List MemPlace} (h:DataW.trod enc d0 w 0 (fun _=>true) true fuel 28 cs=some x) :
  ∃ g:List bJ,bD w (kh w) cs [iq g]∧(g.map bJ.weight).sum+1≤Rows.uptoBulk x.1:=by
 obtain ⟨g,U,ad⟩:=yz (sz:=4) hy bJ.weight Tryz.underlying28 fA ag (fun m cs y _ ax=>aaB m cs y ax) h;exact ⟨g,U,ad⟩
end
open Go.ChangeShapes Go.WideShapes Go.ChangeAt Go.RowKit
theorem Pl {H:Type} {enc:TypeId×Value→H} {P:Program} {W wS:World} (aB:laidOutB P=true):∀ {fU:List TypeId} {vs:List Value} {b4:List (DataW H)} {ps:List MemPlace} {sp:Nat→Bool},(∀ t∈fU,P.readableRec t=true∧t<P.types.size) →
    DataW.TrodAll enc P W 0 (fun _=>true) true fU vs b4 ps→(∀ p∈ps,W.sameAt wS p)→(∀ p∈ps,sp p.block=true)→DataW.TrodAll enc P wS 0 sp true fU vs b4 ps
  | [],[],[],_,_,_,h,_,_=>h
  | t::fU,v::vs,d::b4,ps,sp,aK,h,ao,an=>by
    obtain ⟨p,q,U,ad,rfl⟩:=h;obtain ⟨fg,gf⟩:=aK t i5
    exact ⟨p,q,WideElems.Trod_stays aB fg gf U (fun x ab=>ao x (ai0 _ ab)) (fun x ab=>an x (ai0 _ ab)),
      Pl aB (fun t c4=>aK t (g7 _ c4)) ad (fun x ab=>ao x (an6 _ ab)) (fun x ab=>an x (an6 _ ab)),rfl⟩
  | [],[],_::_,_,_,_,h,_,_=>h.elim
  | [],_::_,_,_,_,_,h,_,_=>h.elim
  | _::_,[],_,_,_,_,h,_,_=>h.elim
  | _::_,_::_,[],_,_,_,h,_,_=>h.elim
theorem abD {H:Type} {enc:TypeId×Value→H} {f:FuncId} {fn:Func} {spec:ChangeSpec} {W:World} {args:Array Value} {xs:List af} {b4 gs:List (DataW H)} {before:List MemPlace}
  (aB:laidOutB d0=true) (aE:∀ t∈fn.params.toList,d0.readableRec t=true∧t < d0.types.size) (aC:fn.resultTypes = #[4]) (ar:spec.vars=[])
  (gS:gs=[]→spec.fn H (b4++gs)={ results:=[.lit (.bool true)],args:=b4 })
  (gu:DataW.Whole enc d0 fn.params.toList spec.vars false W args.toList b4 gs before) (eG:bD W (kh W) args.toList xs) (aF:gX d0 f xs (fun _=>none) (fun o ai=>o = .ret (.bool true)∧ai=fun _=>none)) :
  Calls d0 f args W fun e wS=>∃ v,e = .returned v∧spec.post enc d0 fn false true false false W args v wS:=by
 have h:=aF.2 W (kh W) args.toList (aaw W) eG;rw [Array.toArray_toList] at h;refine Calls.mono h fun e wS ⟨cp,o,ai,bg,pP,⟨ah,gY⟩,hle,aD,b5⟩=>?_
 subst ah;cases e with
 | returned v=>
  have an:Rel wS bg v (.bool true):=pP;cases an;have Pm:Below W.heap.size W wS:=⟨hle.os,hle.tape,hle.output,hle.size,fun k eu=>aD.heap k eu C⟩;have az:=gu.lt;have aaE:=gu;obtain ⟨p,q,lj,yo,rfl,abE,e2⟩:=gu;rw [ar] at yo;obtain ⟨rfl,rfl⟩:=trodVars_none yo;have yi:=gS C;refine ⟨_,rfl,b4,[],_,[],p,[],aaE,?_,?_,?_,Pm.frame _,fun h=>by cases h⟩
  ·rw [yi,aC]
   exact trodAll_cons_mk (shut_bool Tryz.underlying4 _) trodAll_mk0
  ·rw [yi]
   exact Pl aB aE lj (fun x ab=>Pm.same (az x (by simpa using ab))) (fun x ab=>by simpa using az x (by simpa using ab))
  ·rw [yi,ar];exact rfl
 | panicked dr=>exact pP.elim
 | outgrown=>exact pP.elim
theorem abF {P:Program} {W:World} {r:Reach} {b:Nat} {t e:TypeId} {v:Value} (aK:P.underlying t=some (.slice e)) (h:Value.okWide P W r b t v):v.cells = #[v]:=by
 obtain ⟨a,n,c,rfl⟩:=okWide_slice aK h;rfl
theorem abG {P:Program} {W:World} {r:Reach} {b:Nat} {t:TypeId} {gn:Array Field} {v:Value} (aK:P.underlying t=some (.struct gn)) (h:Value.okWide P W r b t v):∃ cs,v = .agg cs:=by
 obtain ⟨cs,U,-⟩:=okWide_struct aK h;exact ⟨cs,U⟩
theorem abH {w:World} {p:bO} {v:Value} {x:af} (ar:v.cells = #[v]) (h:bD w p v.cells.toList [x]):Rel w p v x:=by
 rw [ar] at h;cases h with
 | cons _ _ _ _ h _=>exact h
theorem abI {w:World} {p:bO} {v:Value} {xs:List af} (ar:∃ cs,v = .agg cs) (h:bD w p v.cells.toList xs):Rel w p v (.agg xs):=by
 obtain ⟨cs,rfl⟩:=ar;exact .agg _ _ h
theorem abJ {P:Program} {W:World} {r:Reach} {b:Nat} {t:TypeId} {v:Value} {k:IntKind} (aK:P.underlying t=some (.int k)) (h:Value.okWide P W r b t v):v.cells = #[v]:=by
 obtain ⟨n,rfl⟩:=okWide_int aK h;rfl
theorem laidOut:laidOutB d0=true:=by kernel_rfl
theorem Bd {α:Type} {m:α→Nat}:∀ {l:List α} {x:α},x∈l→m x≤(l.map m).sum
  | y::r,x,h=>by
    rw [ac0,an8];rcases List.mem_cons.1 h with rfl|h
    · omega
    · have:=Bd (m:=m) h;omega
mutual
def aq.weight:aq→Nat
 | .mk _ _ p _ _ ks=>p.length+6+aq.weights ks
def aq.weights:List aq→Nat
 | []=>0
 | k::r=>aq.weight k+aq.weights r
end
theorem aq.Pn:∀ l:List aq,aq.weights l=(l.map aq.weight).sum
 | []=>rfl
 | k::r=>by rw [aq.weights,aq.Pn r];rfl
mutual
theorem aq.Po:∀ f:aq,f.size≤aq.weight f
  | .mk o a p c n ks=>by
    have h:=aq.Pp ks;have e:=(aq.mk o a p c n ks).size_eq;have U:(aq.mk o a p c n ks).kids=ks:=rfl;have ad:(aq.mk o a p c n ks).path=p:=rfl;rw [U,ad] at e;rw [aq.weight];omega
theorem aq.Pp:∀ l:List aq,aq.iC l≤aq.weights l
  | []=>g9 _
  | k::r=>by
    have U:=aq.Po k;have ad:=aq.Pp r;rw [aq.iC,aq.weights];omega
end
theorem aaF (ks:List aq):(ks.map fun a=>af.agg a.cells)=ks.map aq.cb:=by
 congr 1;funext a;exact (aq.cE a).symm
section
variable {H:Type} {enc:TypeId×Value→H} {w:World}
theorem aaG:∀ (fuel:Nat) (cs:List Value) (y:DataW H×List MemPlace),DataW.trod enc d0 w 0 (fun _=>true) true fuel 58 cs=some y→∃ e:aq,bD w (kh w) cs (aq.cells e)∧aq.weight e≤Rows.uptoBulk y.1:=by
 intro fuel
 induction fuel using as5 with
 | _ fuel aX=>
 intro cs y h;obtain ⟨xs,n,rfl,rfl,aB,hlen,a1⟩:=DataW.trod_struct Tryz.underlying58 h;have D5 : d0.cellsOf 58 = 6:=by kernel_rfl
 have aaH : d0.cellsOf 56 = 1:=by kernel_rfl
 have qP : d0.cellsOf 3 = 1:=by kernel_rfl
 have wT : d0.cellsOf 23 = 1:=by kernel_rfl
 have aaI : d0.cellsOf 47 = 1:=by kernel_rfl
 rw [D5] at aB
 match cs,aB,xs,hlen with
 | [v0,v1,v2,v3,v4,v5],_,[yB,wN,wO,IE,acp,ab0],_=>
  have bo:=a1 0 (hc "Op" 56 0 0) C;have U:=a1 1 (hc "Arg" 3 1 8) C;have ad:=a1 2 (hc "Path" 23 2 16) C;have al:=a1 3 (hc "Class" 3 3 40) C;have bd:=a1 4 (hc "N" 3 4 48) C;have bB:=a1 5 (hc "Kids" 47 5 56) C;simp only [hc,D5,aaH,qP,wT,aaI,ap6,as1] at bo U ad al bd bB;obtain ⟨a0,g0,u5⟩:=trod_int Tryz.underlying56 bo;obtain ⟨dm,g1,hU⟩:=trod_int Tryz.underlying3 U;obtain ⟨a2,g2,dL⟩:=yA ad;obtain ⟨a3,g3,mU⟩:=trod_int Tryz.underlying3 al;obtain ⟨a4,g4,oN⟩:=trod_int Tryz.underlying3 bd;obtain ⟨a5,g5,AY⟩:=yz (sz:=6) aq.cells aq.weight Tryz.underlying47 fA ag (fun m cs y hm ax=>aX m ag cs y ax) bB;refine ⟨.mk a0 dm a2 a3 a4 a5,?_,?_⟩
  ·have:aq.cells (aq.mk a0 dm a2 a3 a4 a5)=[.int .i64 a0]++([.int .i64 dm]++([bk a2]++([.int .i64 a3]++([.int .i64 a4]++([.ay 6 (a5.map fun a => .agg (aq.cells a)) .aZ]))))):=by rw [aaF];rfl
   rw [this];exact bD.jM (vs:=[v0]) g0 (bD.jM (vs:=[v1]) g1 (bD.jM (vs:=[v2]) g2 (bD.jM (vs:=[v3]) g3 (bD.jM (vs:=[v4]) g4 (g5)))))
  ·simp only [wR,ac0,ae3,Rows.uptoBulkAll,aq.weight,aq.Pn]
   omega
def D6 (x:iE):List af:=[.int .i64 x.slot,.int .i64 x.n]
def iE.weight (_x:iE):Nat:=2
theorem aaJ (fuel:Nat) (cs:List Value) (y:DataW H×List MemPlace) (h:DataW.trod enc d0 w 0 (fun _=>true) true fuel 241 cs=some y):∃ e:iE,bD w (kh w) cs (D6 e)∧iE.weight e≤Rows.uptoBulk y.1:=by
 obtain ⟨xs,n,rfl,rfl,aB,hlen,a1⟩:=DataW.trod_struct Tryz.underlying241 h;have Pq : d0.cellsOf 241 = 2:=by kernel_rfl
 have qP : d0.cellsOf 3 = 1:=by kernel_rfl
 rw [Pq] at aB
 match cs,aB,xs,hlen with
 | [v0,v1],_,[yB,wN],_=>
  have bo:=a1 0 (hc "Slot" 3 0 0) C;have U:=a1 1 (hc "N" 3 1 8) C;simp only [hc,Pq,qP,ap6,as1] at bo U;obtain ⟨a0,g0,u5⟩:=trod_int Tryz.underlying3 bo;obtain ⟨dm,g1,hU⟩:=trod_int Tryz.underlying3 U;refine ⟨iE.mk a0 dm,?_,?_⟩
  ·have:D6 (iE.mk a0 dm)=[.int .i64 a0]++([.int .i64 dm]):=rfl
   rw [this];exact bD.jM (vs:=[v0]) g0 (g1)
  ·simp only [wR,ac0,ae3,Rows.uptoBulkAll,iE.weight]
   omega
def e3.weight (x:e3):Nat:=x.parents.length+x.bj.length+(x.inits.map iE.weight).sum+3
theorem aaK (fuel:Nat) (cs:List Value) (y:DataW H×List MemPlace) (h:DataW.trod enc d0 w 0 (fun _=>true) true fuel 76 cs=some y):∃ e:e3,bD w (kh w) cs (lv e)∧e3.weight e≤Rows.uptoBulk y.1:=by
 obtain ⟨xs,n,rfl,rfl,aB,hlen,a1⟩:=DataW.trod_struct Tryz.underlying76 h;have Ps : d0.cellsOf 76 = 3:=by kernel_rfl
 have wT : d0.cellsOf 23 = 1:=by kernel_rfl
 have aaL : d0.cellsOf 74 = 1:=by kernel_rfl
 rw [Ps] at aB
 match cs,aB,xs,hlen with
 | [v0,v1,v2],_,[yB,wN,wO],_=>
  have bo:=a1 0 (hc "Parents" 23 0 0) C;have U:=a1 1 (hc "Slots" 23 1 24) C;have ad:=a1 2 (hc "Inits" 74 2 48) C;simp only [hc,Ps,wT,aaL,ap6,as1] at bo U ad;obtain ⟨a0,g0,u5⟩:=yA bo;obtain ⟨dm,g1,hU⟩:=yA U;obtain ⟨a2,g2,dL⟩:=yz (sz:=2) D6 iE.weight Tryz.underlying74 fA ag (fun m cs y _ ax=>aaJ m cs y ax) ad;refine ⟨e3.mk a0 dm a2,?_,?_⟩
  ·have:lv (e3.mk a0 dm a2)=[bk a0]++([bk dm]++([.ay 2 (a2.map fun a => .agg (D6 a)) .aZ])):=rfl
   rw [this];exact bD.jM (vs:=[v0]) g0 (bD.jM (vs:=[v1]) g1 (g2))
  ·simp only [wR,ac0,ae3,Rows.uptoBulkAll,e3.weight]
   omega
def gP.weight (x:gP):Nat:=aq.weight x.fact+3
theorem aaM (fuel:Nat) (cs:List Value) (y:DataW H×List MemPlace) (h:DataW.trod enc d0 w 0 (fun _=>true) true fuel 89 cs=some y):∃ e:gP,bD w (kh w) cs (oz e)∧gP.weight e≤Rows.uptoBulk y.1:=by
 obtain ⟨xs,n,rfl,rfl,aB,hlen,a1⟩:=DataW.trod_struct Tryz.underlying89 h;have Pt : d0.cellsOf 89 = 9:=by kernel_rfl
 have aaN : d0.cellsOf 87 = 1:=by kernel_rfl
 have qP : d0.cellsOf 3 = 1:=by kernel_rfl
 have D5 : d0.cellsOf 58 = 6:=by kernel_rfl
 rw [Pt] at aB
 match cs,aB,xs,hlen with
 | [v0,v1,v2,v3,v4,v5,v6,ab5,abV],_,[yB,wN,wO,IE],_=>
  have bo:=a1 0 (hc "Kind" 87 0 0) C;have U:=a1 1 (hc "Gen" 3 1 8) C;have ad:=a1 2 (hc "Fact" 58 2 16) C;have al:=a1 3 (hc "Node" 3 8 96) C;simp only [hc,Pt,aaN,qP,D5,ap6,as1] at bo U ad al;obtain ⟨a0,g0,u5⟩:=trod_int Tryz.underlying87 bo;obtain ⟨dm,g1,hU⟩:=trod_int Tryz.underlying3 U;obtain ⟨a2,g2,dL⟩:=aaG _ _ _ ad;obtain ⟨a3,g3,mU⟩:=trod_int Tryz.underlying3 al;refine ⟨gP.mk a0 dm a2 a3,?_,?_⟩
  ·have:oz (gP.mk a0 dm a2 a3)=[.int .i64 a0]++([.int .i64 dm]++((aq.cells a2)++([.int .i64 a3]))):=by simp only [oz,aq.cells,t8,d7]
   rw [this];exact bD.jM (vs:=[v0]) g0 (bD.jM (vs:=[v1]) g1 (bD.jM (vs:=[v2,v3,v4,v5,v6,ab5]) g2 (g3)))
  ·simp only [wR,ac0,ae3,Rows.uptoBulkAll,gP.weight]
   omega
def hX.weight (x:hX):Nat:=x.kids.length+3
theorem aaO (fuel:Nat) (cs:List Value) (y:DataW H×List MemPlace) (h:DataW.trod enc d0 w 0 (fun _=>true) true fuel 85 cs=some y):∃ e:hX,bD w (kh w) cs (kA e)∧hX.weight e≤Rows.uptoBulk y.1:=by
 obtain ⟨xs,n,rfl,rfl,aB,hlen,a1⟩:=DataW.trod_struct Tryz.underlying85 h;have Pu : d0.cellsOf 85 = 3:=by kernel_rfl
 have aaP : d0.cellsOf 83 = 1:=by kernel_rfl
 have qP : d0.cellsOf 3 = 1:=by kernel_rfl
 have wT : d0.cellsOf 23 = 1:=by kernel_rfl
 rw [Pu] at aB
 match cs,aB,xs,hlen with
 | [v0,v1,v2],_,[yB,wN,wO],_=>
  have bo:=a1 0 (hc "Op" 83 0 0) C;have U:=a1 1 (hc "N" 3 1 8) C;have ad:=a1 2 (hc "Kids" 23 2 16) C;simp only [hc,Pu,aaP,qP,wT,ap6,as1] at bo U ad;obtain ⟨a0,g0,u5⟩:=trod_int Tryz.underlying83 bo;obtain ⟨dm,g1,hU⟩:=trod_int Tryz.underlying3 U;obtain ⟨a2,g2,dL⟩:=yA ad;refine ⟨hX.mk a0 dm a2,?_,?_⟩
  ·have:kA (hX.mk a0 dm a2)=[.int .i64 a0]++([.int .i64 dm]++([bk a2])):=rfl
   rw [this];exact bD.jM (vs:=[v0]) g0 (bD.jM (vs:=[v1]) g1 (g2))
  ·simp only [wR,ac0,ae3,Rows.uptoBulkAll,hX.weight]
   omega
def bK.weight (x:bK):Nat:=(x.bT.map e3.weight).sum+x.cR.length+(x.methods.map gP.weight).sum+(x.nodes.map hX.weight).sum+6
theorem abK (fuel:Nat) (cs:List Value) (y:DataW H×List MemPlace) (h:DataW.trod enc d0 w 0 (fun _=>true) true fuel 27 cs=some y):∃ e:bK,bD w (kh w) cs (cV e)∧bK.weight e≤Rows.uptoBulk y.1:=by
 obtain ⟨xs,n,rfl,rfl,aB,hlen,a1⟩:=DataW.trod_struct Tryz.underlying27 h;have Pv : d0.cellsOf 27 = 6:=by kernel_rfl
 have aaQ : d0.cellsOf 22 = 1:=by kernel_rfl
 have qP : d0.cellsOf 3 = 1:=by kernel_rfl
 have wT : d0.cellsOf 23 = 1:=by kernel_rfl
 have aaR : d0.cellsOf 24 = 1:=by kernel_rfl
 have aaS : d0.cellsOf 25 = 1:=by kernel_rfl
 rw [Pv] at aB
 match cs,aB,xs,hlen with
 | [v0,v1,v2,v3,v4,v5],_,[yB,wN,wO,IE,acp,ab0],_=>
  have bo:=a1 0 (hc "Classes" 22 0 0) C;have U:=a1 1 (hc "Slots" 3 1 24) C;have ad:=a1 2 (hc "Gens" 23 2 32) C;have al:=a1 3 (hc "Methods" 24 3 56) C;have bd:=a1 4 (hc "Nodes" 25 4 80) C;have bB:=a1 5 (hc "Main" 3 5 104) C;simp only [hc,Pv,aaQ,qP,wT,aaR,aaS,ap6,as1] at bo U ad al bd bB;obtain ⟨a0,g0,u5⟩:=yz (sz:=3) lv e3.weight Tryz.underlying22 fA ag (fun m cs y _ ax=>aaK m cs y ax) bo;obtain ⟨dm,g1,hU⟩:=trod_int Tryz.underlying3 U;obtain ⟨a2,g2,dL⟩:=yA ad;obtain ⟨a3,g3,mU⟩:=yz (sz:=9) oz gP.weight Tryz.underlying24 fA ag (fun m cs y _ ax=>aaM m cs y ax) al;obtain ⟨a4,g4,oN⟩:=yz (sz:=3) kA hX.weight Tryz.underlying25 fA ag (fun m cs y _ ax=>aaO m cs y ax) bd;obtain ⟨a5,g5,AY⟩:=trod_int Tryz.underlying3 bB;refine ⟨bK.mk a0 dm a2 a3 a4 a5,?_,?_⟩
  ·have:cV (bK.mk a0 dm a2 a3 a4 a5)=[.ay 3 (a0.map fun a => .agg (lv a)) .aZ]++([.int .i64 dm]++([bk a2]++([.ay 9 (a3.map fun a => .agg (oz a)) .aZ]++([.ay 3 (a4.map fun a => .agg (kA a)) .aZ]++([.int .i64 a5]))))):=rfl
   rw [this];exact bD.jM (vs:=[v0]) g0 (bD.jM (vs:=[v1]) g1 (bD.jM (vs:=[v2]) g2 (bD.jM (vs:=[v3]) g3 (bD.jM (vs:=[v4]) g4 (g5)))))
  ·simp only [wR,ac0,ae3,Rows.uptoBulkAll,bK.weight]
   omega
def yC (_v:Int×Int):Nat:=2
def ev.weight (x:ev):Nat:=(x.bj.map yC).sum+2
structure Ask where
 bf:List ev
 gen:Int
 args:List (Int×Int)
def Ask.weight (x:Ask):Nat:=(x.bf.map ev.weight).sum+(x.args.map yC).sum+3
end
theorem bK.small {p:bK} (h:bK.weight p≤1048576):fD p:=by
 have an:=bC;unfold bK.weight at h;have U:=Pj p.bT;have ao:∀ {α:Type} (l:List α) (m:α→Nat),(∀ x,1≤m x)→l.length≤(l.map m).sum:=fun l m hm=>by
  induction l with
  | nil=>exact g9 _
  | cons x r aX=>rw [ac0,an8,i7];have:=hm x;omega
 have cP:=ao p.bT e3.weight (fun x=>by unfold e3.weight;omega);have c9:=ao p.methods gP.weight (fun x=>by unfold gP.weight;omega);have eP:=ao p.nodes hX.weight (fun x=>by unfold hX.weight;omega);refine ⟨by omega,fun c aF=>?_,by omega,by omega,fun m hm=>?_,by omega,fun x ab=>?_⟩
 ·have:=Bd (m:=e3.weight) aF
  unfold e3.weight at this;have:=ao c.inits iE.weight (fun x=>by unfold iE.weight;omega);unfold e3.weight at *;omega
 ·have:=Bd (m:=gP.weight) hm
  have:=aq.Po m.fact;unfold gP.weight at *;omega
 ·have:=Bd (m:=hX.weight) ab
  unfold hX.weight at *;omega
theorem Ask.small {x:Ask} (h:Ask.weight x≤1048576):x.bf.length<bt∧(∀ o∈x.bf,o.bj.length<bt)∧x.args.length<bt:=by
 have an:=bC;unfold Ask.weight at h;have ao:∀ {α:Type} (l:List α) (m:α→Nat),(∀ x,1≤m x)→l.length≤(l.map m).sum:=fun l m hm=>by
  induction l with
  | nil=>exact g9 _
  | cons x r aX=>rw [ac0,an8,i7];have:=hm x;omega
 have cP:=ao x.bf ev.weight (fun x=>by unfold ev.weight;omega);have c9:=ao x.args yC (fun x=>by unfold yC;omega);refine ⟨by omega,fun o ah=>?_,by omega⟩;have:=Bd (m:=ev.weight) ah;have:=ao o.bj yC (fun x=>by unfold yC;omega);unfold ev.weight at *;omega
section
variable {H:Type} {enc:TypeId×Value→H} {w:World}
theorem aaT {t:TypeId} {fuel:Nat} {cs:List Value} {y:DataW H×List MemPlace} (aK : d0.underlying t=some (.int .u8)) (h:DataW.trod enc d0 w 0 (fun _=>true) true fuel t cs=some y) :
  ∃ (n:Int) (v:Value),v.cells.toList=cs∧Rel w (kh w) v (.int .u8 n)∧1≤Rows.uptoBulk y.1:=by
 obtain ⟨n,rfl,rfl,-⟩:=DataW.trod_int aK h;exact ⟨n,.int .u8 n,rfl,.int _ _,by simp [Rows.uptoBulk]⟩
theorem abL {fuel:Nat} {cs:List Value} {x:DataW H×List MemPlace} (h:DataW.trod enc d0 w 0 (fun _=>true) true fuel 73 cs=some x) :
  ∃ l:List Int,bD w (kh w) cs [IA l]∧l.length+1≤Rows.uptoBulk x.1:=by
 obtain ⟨c,l,rfl,U,ad⟩:=IC (sz:=1) (fun n=>af.int .u8 n) (fun _=>1) Tryz.underlying73 fA ag (fun _ _ _ _ h _=>aaT Tryz.underlying5 h) h;rw [ID] at ad;exact ⟨l,.cons _ _ _ _ U .nil,ad⟩
end
theorem abM:mapsRowed d0=true:=by kernel_rfl
theorem abN:(d0.stops==[])=true:=by kernel_rfl
theorem abO:(d0.stopKnobs==[])=true:=by kernel_rfl
theorem abP : d0.stopsHeard=true:=by kernel_rfl
theorem abQ : d0.mayEnter=true:=by kernel_rfl
theorem abR:(Rows.treeSmallsUptoRow.lifted == d0.liftsFinal)=true:=by kernel_rfl
theorem abS:(d0.make==some Rows.treeSmallsUptoRow.make)=true:=by kernel_rfl
theorem abT:(Rows.treeSmallsUptoRow.plainKeys == d0.plainKeys)=true:=by kernel_rfl
end Go.Proofs.YtnafpeohfbglmaaGreat
