import Derived.Test.YtnafpeohfbglmaaGreatQg
import Derived.Test.YtnafpeohfbglmaaGreatRows
import Derived.ProofKit
import Derived.OpenShut
import Derived.WalkKit
import Derived.JoinedCond
set_option linter.unusedVariables false
set_option linter.unusedSimpArgs false
set_option maxRecDepth 100000
set_option maxHeartbeats 4000000
open List (all_cons all_eq_true all_nil any_cons any_eq_false any_eq_true any_nil append_nil cons_append drop filter_cons foldl_cons foldl_nil getD_eq_getElem?_getD getElem?_eq_getElem getElem?_of_mem length_append length_cons length_filter_le length_map length_range length_take map_append map_cons map_nil mem_append mem_cons_of_mem mem_cons_self mem_filter mem_of_getElem? mem_range mem_singleton nil_append range sum_cons take take_add_one take_length)
open Nat (lt_succ_self mul_one pow_le_pow_right testBit_and testBit_or testBit_two_pow testBit_xor zero_le zero_testBit)
open Bool (and_eq_true eq_false_iff false_eq_true not_eq_true' or_eq_false_iff or_eq_true)
open Int (toNat_natCast)
open Option (getD_some)
theorem By {p:Prop} (h:p:=by repeat (first|exact trivial|refine ⟨⟨_,rfl,aL⟩,?_⟩|refine ⟨⟨_,rfl,aS.of_eq (by (first|rw [jD (by omega)]|(congr 1;(try rw [dG]);show _=max _ _;split<;>omega)|(congr 1;(try rw [dG]);show _=min _ _;split<;>omega)|rw [List.map_append];rfl))⟩,?_⟩)):p:=h
theorem OC {p:Prop} (h:p:=by repeat (first|exact trivial|refine ⟨⟨_,rfl,aL⟩,?_⟩|refine ⟨⟨_,rfl,aS.of_eq (by (first|rw [jD (by omega)]|(show _=kZ (cr.test _ _ _);rw [kZ,CM,It])))⟩,?_⟩)):p:=h
theorem Eb {p:Prop} (h:p:=by repeat (first|exact trivial|refine ⟨⟨_,rfl,aL⟩,?_⟩|refine ⟨⟨_,rfl,aS.of_eq (by (first|rw [jD (by omega)]|rw [sd]))⟩,?_⟩)):p:=h
theorem OD {p:Prop} (h:p:=by repeat (first|exact trivial|refine ⟨⟨_,rfl,aL⟩,?_⟩|refine ⟨⟨_,rfl,aS.of_eq (by (first|rw [jD (by omega)]|rw [aI]))⟩,?_⟩)):p:=h
theorem OE {p:Prop} (h:p:=by repeat (first|exact trivial|refine ⟨⟨_,rfl,aL⟩,?_⟩|refine ⟨⟨_,rfl,aS.of_eq (by (rw [Zl]))⟩,?_⟩)):p:=h
theorem Bz {p:Prop} (h:p:=by simp only [List.length_append,List.length_cons,List.length_nil];exact aH.all _):p:=h
theorem BA {p:Prop} (h:p:=by rw [pD,Nat.mul_one];exact Az fun k=>rfl):p:=h
theorem p1 {p:Prop} (h:p:=by show M.length-(j+1)<M.length-j;omega):p:=h
theorem uW {p:Prop} (h:p:=by show l.length-(i+1)<l.length-i;omega):p:=h
theorem yP {p:Prop} (h:p:=by show L.length-(j+1)<L.length-j;omega):p:=h
theorem Ec {p:Prop} (h:p:=by show L.length-(k+1)<L.length-k;omega):p:=h
namespace Go.Proofs.YtnafpeohfbglmaaGreat
open Go.cU Go.eb
def uX (w:bx) (bk:List e2) (args:List (Int×Int)) (f:ak):Bool:=(nt w f bk args).2==0&&(nt w f bk args).1
def uY (q:ak→Bool):Nat→List ak→Nat→Nat
 | _,[],v=>v
 | i,f::r,v=>uY q (i+1) r (if q f then v|||2^i else v)
theorem OF (q:ak→Bool):∀ (l:List ak) (i v:Nat),v<2^i→uY q i l v<2^(i+l.length)
  | [],i,v,h=>h
  | f::r,i,v,h=>by
    have U:(if q f then v|||2^i else v)<2^(i+1):=by
      have ad:2^i<2^(i+1):=Nat.pow_lt_pow_right ag ag;split
      · exact Nat.or_lt_two_pow ag ad
      · omega
    have:=OF q r (i+1) _ U;rw [uY,length_cons,show i+(r.length+1)=i+1+r.length by omega];exact this
def BB (p:bP) (bk:List e2) (n:Int) (args:List (Int×Int)):Nat:=uY (uX (b9 p) bk args) 0 (cK p n) 0
def uZ (p:bP) (bk:List e2) (n:Int) (args:List (Int×Int)) (g:List b0):Int:=
 if !(xa p bk n args) || !gI g then 2 else if eY p n=0 then (if o2 p n g then 0 else 7) else eY p n
def Iu (p:bP) (bk:List e2) (n:Int) (args:List (Int×Int)) (g:List b0):af:=
 .cp [if uZ p bk n args g=0 then bf (g.getD (leads g (BB p bk n args)).1.toNat default).ms else .aA 0 [] .nil,.int .i64 (if uZ p bk n args g=0 then ((leads g (BB p bk n args)).2:Int) else 0),.int .i64 (uZ p bk n args g)]
theorem OG {g:List b0} (h:gI g=true):∀ x∈g,x.ms.length≤16:=fun x ab=>by
 obtain ⟨i,aQ⟩:=getElem?_of_mem ab;have az:=uq h aQ;by_cases a7:x.atom = -1
 ·exact ((np a7).1 az).2.2.1
 ·have:=((kc a7).1 az).2.2.2.2.2.2
  omega
theorem Zm {i:Nat} (h:i≤7):IntKind.wrap .i64 (1*2^(min (i:Int).toNat (IntKind.bits .i64)))=((2^i:Nat):Int):=Bu h
theorem Zn (p:bP) (aD:fj p) (n:Int) (bk:List e2) (args:List (Int×Int)) (aB:bk.length<bz) (ah:∀ o∈bk,o.bo.length<bz) (pB:args.length<bz) (g:List b0) (aw:g.length<bz):aR Tryz.prog 22 [cA p,hk bk,.int .i64 n,kU args,fO g] (Iu p bk n args g):=by
 have aq:=bA;refine aR.bh ai Tryz.func22 C C fun s I=>?_
 have Bx:=Zk p aD n bk args aB ah pB;have a6:=C' g aw;have a7:=yG p aD n;have eJ:uZ p bk n args g=if !(xa p bk n args) || !gI g then 2 else if eY p n=0 then (if o2 p n g then 0 else 7) else eY p n:=rfl
 unfold Iu;cases iC:xa p bk n args with
 | false=>
  rw [iC] at eJ;have eJ:uZ p bk n args g=2:=eJ;unfold Ea at Bx;rw [iC,if_neg a',if_neg a'] at Bx;rw [eJ,if_neg a',if_neg a'];unfold cA cL hk kU fO at *;refine bW ?_;exact bl I
 | true=>
 have db:gy p=true:=by unfold xa at iC;rw [and_eq_true] at iC;exact iC.1
 unfold Ea at Bx;rw [iC,if_pos C,if_pos C] at Bx;cases hY:gI g with
 | false=>
  rw [iC,hY] at eJ;have eJ:uZ p bk n args g=2:=eJ;rw [hY] at a6;rw [eJ,if_neg a',if_neg a'];unfold cA cL hk kU fO at *;refine bW ?_;exact bl I
 | true=>
 rw [iC,hY] at eJ;have eJ:uZ p bk n args g=if eY p n=0 then (if o2 p n g then 0 else 7) else eY p n:=eJ
 rw [hY] at a6;unfold cA cL hk kU fO at *;refine bW ?_;refine aa.b3 rfl rfl rfl rfl rfl a7 I .nil ?_ (fun _ _ h _=>by rcases h with ⟨_,_,_,_,h,_⟩|⟨_,⟨_,h⟩,_⟩<;>cases h);rintro _ _ (⟨he,cj,aq,cB,⟨⟩,rfl⟩|⟨he,⟨v,⟨⟩⟩,rfl⟩) I;rotate_left
 ·rw [if_neg he] at eJ
  rw [eJ,if_neg he,if_neg he];simp only [nil_append] at I ⊢;refine eh ?_;refine ae.cond C (fun _=>?_) (fun h=>absurd fD he);refine gv ?_;exact bl I
 rw [if_pos he] at eJ;obtain ⟨db,e5,dg,eF,fV⟩:=sc he;have aF:=Ox p aD db n (cK p n) aq cB cj e5 dg eF fV g hY;have zk:(g.all (fun x=>decide (x.atom<((cK p n).length:Int)))&&(ik (b9 p) (cK p n)).all (tt p n (cK p n) g))=o2 p n g:=rfl;rw [zk] at aF;unfold ed fO at aF;simp only [cons_append,nil_append] at I ⊢;refine bC ?_;refine aa.b3 rfl rfl rfl rfl rfl aF I aX ?_ (fun _ _ ⟨h,_⟩ _=>by cases h);rintro _ _ ⟨⟨⟩,A7,m,rfl⟩ I;simp only [cons_append,nil_append] at I ⊢;cases Cv:o2 p n g with
 | false=>
  rw [Cv,if_neg a'] at eJ;rw [eJ,if_neg a',if_neg a'];refine eh ?_;exact bl I
 | true=>
 rw [Cv,if_pos C] at eJ;rw [eJ,if_pos C,if_pos C];have D':BB p bk n args=uY (uX (b9 p) bk args) 0 (cK p n) 0:=rfl;have fw:=OF (uX (b9 p) bk args) (cK p n) 0 0 a';rw [Nat.zero_add] at fw;have ts:2^(cK p n).length≤2^7:=pow_le_pow_right ag e5;rw [← D'] at fw;generalize BB p bk n args=view at *;have r2:=MX g hY view ag;obtain ⟨OH,BC,g1,g2,-⟩:=Hy hY view;have fc:BC.ms.length≤16:=(OG hY) BC (mem_of_getElem? g2);have cv:=Ao BC.ms .bb ag;have qj:(g.map eW)[OH]? = some (eW BC):=by rw [List.getElem?_map,g2];rfl
 rw [g1] at r2 ⊢;rw [toNat_natCast,show g.getD OH default=BC by rw [getD_eq_getElem?_getD,g2];rfl];unfold fO at r2;unfold eW gZ at qj;unfold dU cS at I ⊢;generalize bN:cK p n=l at *;refine hh I ?_;intro I;refine ae.b4 [1,3,4,15,55,56] C I (σ:=Nat×Nat) (fun q=>[(57,.int .i64 (q.1:Int)),(17,.int .i64 (q.2:Int))]) (fun _=>[ed p n (cS l) A7 aq cB cj]) (fun q=>q.1≤l.length∧q.2<2^q.1∧view=uY (uX (b9 p) bk args) q.1 (l.drop q.1) q.2) (fun q=>l.length-q.1) (0,0) ⟨zero_le _,by simp,D'⟩ (cq C) (by simp only [ed,dU,cS];exact aX) ?_;rintro ⟨j,v⟩ ⟨aK,av,an⟩ I;simp only [ed,dU,cS] at aK av an I ⊢;have abv:2^j≤2^7:=pow_le_pow_right ag ag;refine b7 ?_;refine ae.cond C (fun au=>?_) (fun aV=>?_);rotate_left
 ·have aV:j=l.length:=by simp at aV;omega
  rw [ep ag,uY] at an;subst an;refine c1 ?_;exact bl I
 have au:j<l.length:=by simpa using au
 obtain ⟨f,ab,bJ⟩:=b1 (f:=ak.bK) au;have q7:=dg f (mem_of_getElem? ab);have tf:f.size<bz:=by
  have U:=f.size_eq;have ad:=q6 q7.1 q7.2;have al:=tr q7.1 q7.2;rw [al,ak.hB] at U;omega
 have uw:=GP (b9 p) (yF db) f tf bk args aB ah pB;rw [drop_cons ab,uY] at an;have la:uX (b9 p) bk args f=((nt (b9 p) f bk args).2==0&&(nt (b9 p) f bk args).1):=rfl;generalize nt (b9 p) f bk args=r at uw la;obtain ⟨h3,cg⟩:=r;rw [ak.bX] at bJ uw;unfold ak.cells fm fr hk kU at *;simp only at la uw;by_cases bt:cg=0
 ·subst bt
  cases h3 with
  | true=>
   have la:uX (b9 p) bk args f=true:=la;rw [la,if_pos C] at an
   repeat (first|(refine Sv I ?_;clear I;intro I)|refine aa.dY ai I rfl rfl rfl rfl rfl rfl rfl (fun cJ I=>?_)|(refine FD I ?_;clear I;intro I))
   refine aa.shl ((2^j:Nat):Int) C C C C C C ag (Zm ag) ?_;refine aa.bits _ C C C C C C (SO ag ag) ?_;refine fG ?_;exact bn.mk (j+1,v|||2^j) I ⟨au,Nat.or_lt_two_pow (by rw [Nat.pow_succ];omega) (Nat.pow_lt_pow_right ag ag),an⟩ ca aX mO
  | false=>
   have la:uX (b9 p) bk args f=false:=la;rw [la,if_neg a'] at an
   repeat (first|(refine Sw I ?_;clear I;intro I)|refine aa.dY ai I rfl rfl rfl rfl rfl rfl rfl (fun cJ I=>?_)|(refine FD I ?_;clear I;intro I))
   exact bn.mk (j+1,v) I ⟨au,by show v<2^(j+1);rw [Nat.pow_succ];omega,an⟩ ca aX mO
 ·have la:uX (b9 p) bk args f=false:=by rw [la,show (cg==0)=false from beq_eq_false_iff_ne.2 bt,Bool.false_and]
  rw [la,if_neg a'] at an
  repeat (first|(refine Sx I ?_;clear I;intro I)|refine aa.dY ai I rfl rfl rfl rfl rfl rfl rfl (fun cJ I=>?_)|(refine FD I ?_;clear I;intro I))
  refine aa.cY 75 C (beq_eq_false_iff_ne.2 bt) ?_;refine bC ?_;exact bn.mk (j+1,v) I ⟨au,by show v<2^(j+1);rw [Nat.pow_succ];omega,an⟩ ca aX mO
def eO (ws:List Nat) (u:Nat):Bool:=ws.contains u
theorem Zo {vs:List Nat} {q:Nat→Bool} {v:Nat} (h:v∈vs):eO (vs.filter q) v=q v:=by
 unfold eO;rw [Bool.eq_iff_iff,List.contains_iff_mem,mem_filter];exact ⟨fun h=>h.2,fun ad=>⟨h,ad⟩⟩
def jg (vs ws:List Nat):Prop:=∃ q,ws=vs.filter q
theorem jg.all (vs:List Nat):jg vs vs:=⟨fun _=>true,(List.filter_eq_self.2 fun _ _=>rfl).symm⟩
theorem jg.filter {vs ws:List Nat} (h:jg vs ws) (q:Nat→Bool):jg vs (ws.filter q):=by
 obtain ⟨r,rfl⟩:=h;exact ⟨_,List.filter_filter⟩
theorem jg.mem {vs ws:List Nat} (h:jg vs ws) {v:Nat} (av:v∈ws):v∈vs:=by
 obtain ⟨r,rfl⟩:=h;exact (mem_filter.1 av).1
theorem jg.len {vs ws:List Nat} (h:jg vs ws):ws.length≤vs.length:=by
 obtain ⟨r,rfl⟩:=h;exact length_filter_le _ _
theorem jg.self {vs ws:List Nat} (h:jg vs ws):vs.filter (eO ws)=ws:=by
 obtain ⟨r,rfl⟩:=h;exact List.filter_congr fun v av=>Zo av
theorem jg.inj {vs ws BD:List Nat} (eH:∀ v∈vs,v<128) (h:jg vs ws) (eT:jg vs BD) (he:j0 (eO ws)=j0 (eO BD)):ws=BD:=by
 have:=YE he;rw [← h.self,← eT.self];exact List.filter_congr fun v av=>this v (eH v av)
theorem OI {vs ws:List Nat} (eH:∀ v∈vs,v<128) (h:jg vs ws):(j0 (eO ws)==[0,0])=ws.isEmpty:=by
 rw [Bool.eq_iff_iff,beq_iff_eq,List.isEmpty_iff,← YF];constructor
 ·intro he
  have bt:jg vs []:=⟨fun _=>false,by simp⟩;exact h.inj eH bt he
 ·rintro rfl
  rfl
def q9 (A:Nat) (h:Nat→List Int) (vs:List Nat) (M:List (List Int×af)):Prop:=∀ e∈M,∃ ws,jg vs ws∧e=(j0 (eO ws),kZ (gO A h ws))
theorem q9.len {A:Nat} {h:Nat→List Int} {vs:List Nat} {M:List (List Int×af)} (eL:q9 A h vs M):∀ e∈M,e.1.length=2:=fun e he=>by
 obtain ⟨ws,_,rfl⟩:=eL e he;rfl
theorem q9.find {A:Nat} {h:Nat→List Int} {vs ws:List Nat} {M:List (List Int×af)} {e:List Int×af} (eH:∀ v∈vs,v<128) (eL:q9 A h vs M) (hw:jg vs ws) (a6:M.find? (fun e=>e.1==j0 (eO ws))=some e):e.2=kZ (gO A h ws):=by
 obtain ⟨BD,U,ad⟩:=eL e (List.mem_of_find?_eq_some a6);have al:=List.find?_some a6;rw [ad] at al ⊢;rw [U.inj eH hw (by simpa using al)]
theorem q9.add {A:Nat} {h:Nat→List Int} {vs ws:List Nat} {M:List (List Int×af)} (eL:q9 A h vs M) (hw:jg vs ws):q9 A h vs (M++[(j0 (eO ws),kZ (gO A h ws))]):=fun e he=>by
 rcases mem_append.1 he with he|he
 ·exact eL e he
 ·rw [mem_singleton.1 he];exact ⟨ws,hw,rfl⟩
def kE (vs:List Nat) (M lY:List (List Int×af)) (k:Nat):Prop:=∀ e∈lY,e∈M∨∃ ws,jg vs ws∧ws.length<k∧e.1=j0 (eO ws)
theorem kE.refl (vs:List Nat) (M:List (List Int×af)) (k:Nat):kE vs M M k:=fun _ h => .inl h
theorem kE.trans {vs:List Nat} {M lY OJ:List (List Int×af)} {k k':Nat} (h:kE vs M lY k) (eT:kE vs lY OJ k') (aE:k'≤k):kE vs M OJ k:=fun e he=>by
 rcases eT e he with U|⟨ws,U,ad,al⟩
 ·exact h e U
 ·exact .inr ⟨ws,U,by omega,al⟩
theorem kE.add {vs ws:List Nat} {M lY:List (List Int×af)} {k:Nat} {x:af} (h:kE vs M lY k) (hw:jg vs ws) (aE:ws.length<k):kE vs M (lY++[(j0 (eO ws),x)]) k:=fun e he=>by
 rcases mem_append.1 he with he|he
 ·exact h e he
 ·rw [mem_singleton.1 he];exact .inr ⟨ws,hw,aE,rfl⟩
theorem kE.mono {vs:List Nat} {M lY:List (List Int×af)} {k k':Nat} (h:kE vs M lY k) (aE:k≤k'):kE vs M lY k':=fun e he=>by
 rcases h e he with U|⟨ws,U,ad,al⟩
 ·exact .inl U
 ·exact .inr ⟨ws,U,by omega,al⟩
theorem kE.none {vs ws:List Nat} {M lY:List (List Int×af)} (eH:∀ v∈vs,v<128) (h:kE vs M lY ws.length) (hw:jg vs ws) (a6:M.find? (fun e=>e.1==j0 (eO ws))=none):lY.find? (fun e=>e.1==j0 (eO ws))=none:=by
 rw [List.find?_eq_none] at a6 ⊢;intro e he;rcases h e he with U|⟨BD,U,ad,al⟩
 ·exact a6 e U
 ·rw [al]
  intro az;have:=U.inj eH hw rN;rw [this] at ad;exact absurd ad (Nat.lt_irrefl _)
def yQ:Option cr→af
 | none => .nB
 | some t=>kZ t
theorem yR {ws:List Nat} {u:Nat}:eO ws u=true↔u∈ws:=List.contains_iff_mem
theorem Zp {vs ws:List Nat} (hw:jg vs ws) (i u:Nat):(eO ws u&&eO (vs.filter fun v=>v.testBit i) u)=eO (gq i ws) u:=by
 rw [Bool.eq_iff_iff,and_eq_true,yR,yR,yR,gq,mem_filter,mem_filter];exact ⟨fun h=>⟨h.1,h.2.2⟩,fun h=>⟨h.1,hw.mem h.1,h.2⟩⟩
theorem Zq {vs ws:List Nat} (hw:jg vs ws) (i u:Nat):(eO ws u && !eO (vs.filter fun v=>v.testBit i) u)=eO (gr i ws) u:=by
 rw [Bool.eq_iff_iff,and_eq_true,not_eq_true',eq_false_iff,yR,ne_eq,yR,yR,gr,mem_filter,mem_filter];refine ⟨fun h=>⟨h.1,?_⟩,fun h=>⟨h.1,fun ad=>?_⟩⟩
 ·cases aq:u.testBit i with
  | false=>rfl
  | true=>exact absurd ⟨hw.mem h.1,aq⟩ h.2
 ·have:=h.2
  rw [ad.2] at this;cases this
theorem Zr {vs:List Nat} {i j v:Nat} (av:vs[j]? = some v):(fun u=>eO ((vs.take (j+1)).filter fun v=>v.testBit i) u)=(fun u=>eO ((vs.take j).filter fun v=>v.testBit i) u||(v.testBit i&&u==v)):=by
 funext u;rw [take_add_one,av,List.filter_append];unfold eO;rw [List.contains_append];congr 1;show List.contains (List.filter (fun v=>v.testBit i) [v]) u=_;rw [filter_cons,List.filter_nil];cases v.testBit i with
 | true=>simp;rfl
 | false=>simp
end Go.Proofs.YtnafpeohfbglmaaGreat
namespace Go.cU
section
variable {P:Program} {N:Nat} {env:Env} {s:ao} {o:Oper}
theorem aZ.Ed {t yt:TypeId} {x y:Operand} {k:IntKind} {n:Nat} {xs ys:List Int} (gJ:rM P t k n) (bq:P.eqGuardType P.depth t=false) (ah:o.op = .binOp .eql t x y yt) (ab:aJ env x=some (kf k xs)) (ay:aJ env y=some (kf k ys)) (U:xs.length=n) (ad:ys.length=n) :
  aZ P N o env s (fun v aj=>v = .bool (xs==ys)∧aj=s) (fun _ _=>False):=by
 refine aZ.m3 i' fun ro B c' w p aI=>?_
 have cg:=AH (aI.aJ ab);have bY:=AH (aI.aJ ay);refine tP (v := .bool (xs==ys)) ah ?_ ?_ (.bool _)
 ·rw [cg,bY]
  unfold eqGuard oU;simp [Sem.run_bind,bq]
 ·rw [cg,bY]
  have:=gJ.eq xs ys U ad w;unfold oU at this ⊢;simp only [binOp,Sem.run_bind,this,Result.andThen_ok,Sem.run_pure]
end
section
variable {P:Program} {N:Nat} {ops:Array Oper} {Q:b8→Env→ao→Prop} {env:Env} {s:ao} {l:List Oper} {o:Oper} {d:Nat}
theorem aa.Ed {t yt:TypeId} {x y:Operand} {k:IntKind} {n:Nat} {xs ys:List Int} (gJ:rM P t k n) (bq:P.eqGuardType P.depth t=false) (aw:guardOf ops env o=some true) (ax:o.dst=some d) (aU:Nat.blt d N=true) (ah:o.op = .binOp .eql t x y yt) (ab:aJ env x=some (kf k xs)) (ay:aJ env y=some (kf k ys)) (U:xs.length=n) (ad:ys.length=n)
  (h:aa P N ops l Q ((d,.bool (xs==ys))::env) s):aa P N ops (o::l) Q env s:=
 aa.op aw ax aU (aZ.Ed gJ bq ah ab ay U ad) (fun x aj ⟨U,ad⟩=>by subst U;subst ad;exact h) (fun _ _ h=>h.elim)
end
end Go.cU
namespace Go.Proofs.YtnafpeohfbglmaaGreat
open Go.cU Go.eb
theorem BE:rM Tryz.prog 106 .u64 2:=by
 refine ⟨by kernel_rfl,fun e xs ab w=>?_,fun xs ys ab ay w=>?_⟩
 ·obtain ⟨a,b,rfl⟩:=two ab
  kernel_rfl
 ·obtain ⟨a,b,rfl⟩:=two ab
  obtain ⟨c',aW,rfl⟩:=two ay;have hint:(Tryz.prog).underlying 104 = some (.int .u64):=by kernel_rfl
  obtain ⟨info,aQ⟩:=info_of_underlying hint;have AK:=Mb (T := 106) (e := 104) (k := .u64) fY aQ fY hint (fun a b w=>⟨by kernel_rfl,by kernel_rfl⟩) 9998 a b c' aW w;have av:∀ a b:Int,oU .u64 [a,b] = .agg #[.int .u64 a,.int .u64 b]:=fun _ _=>rfl
  rw [av,av];unfold Op.equal;exact AK
theorem OK:(Tryz.prog).eqGuardType (Tryz.prog).depth 106 = false:=by kernel_rfl
def jh (p:bP) (n:Int) (l:List ak) (aq cB cj:Nat) (vs:List Nat) (M:List (List Int×af)):a8:=[ed p n (cS l) (.aA 1 (hQ vs) .bb) aq cB cj,(.own aq,.map (Bt p n l vs)),(.own cB,.map (mj .u64 M))]
theorem Zs (p:bP) (n:Int) (l:List ak) (aq cB cj:Nat) (vs:List Nat) (eH:∀ v∈vs,v<2^l.length) (e5:l.length≤7) (fw:vs.length≤128) (hs:p.methods.length≤16):∀ (k:Nat) (ws:List Nat),ws.length≤k→jg vs ws→∀ M,q9 l.length (ds p n l) vs M →
  bE Tryz.prog 62 [.ptr cj 0,kp (eO ws)] (jh p n l aq cB cj vs M) (fun o K=>∃ lY,q9 l.length (ds p n l) vs lY∧kE vs M lY (ws.length+1)∧o = .ret (kZ (gO l.length (ds p n l) ws))∧K=jh p n l aq cB cj vs lY):=by
 have nc:bz=1099511627776:=rfl;have ts:2^l.length≤2^7:=pow_le_pow_right ag e5;have yS:∀ v∈vs,v<128:=fun v h=>by have:=eH v h;omega
 intro k
 induction k using Nat.strongRecOn with
 | ind k a1=>
 intro ws aE hw M eL;have kh:=eL.len;have Iv:=YT p n l aq cB cj vs yS fw hs (eO ws);rw [hw.self] at Iv;have uy:=HG l.length (ds p n l) ws;have qH:=hw.len;refine bE.bh ai Tryz.func62 C C fun s I=>?_
 unfold jh ed dU cS kp at *;refine hh I ?_;intro I;refine aN.yc ai I (xs:=j0 (eO ws)) (es:=M) BE C C C C C C C C C C kh aY C ?_;cases a6:M.find? (fun e=>e.1==j0 (eO ws)) with
 | some e=>
  rw [Option.map_some,eL.find yS hw a6];refine hr ?_;exact Fin.bu I C aL (aH.all _) ⟨M,eL,kE.refl _ _ _,rfl,rfl⟩
 | none=>
 rw [Option.map_none];refine bW ?_;unfold pZ ed dU cS at Iv;refine aa.b3 rfl rfl rfl rfl rfl Iv I aX ?_ (fun _ _ ⟨h,_⟩ _=>by cases h);rintro _ _ ⟨⟨⟩,rfl⟩ I;simp only [nil_append,cons_append] at I ⊢;cases a7:qW (ds p n l) ws with
 | true=>
  rw [a7,if_pos C] at uy;rw [if_pos C];refine hh I ?_;intro I;refine aN.AI ai I (xs:=j0 (eO ws)) (es:=M) BE C C C (.inl C) C C C C C C kh aY a6 (fun I=>?_);refine gv ?_;exact Fin.bu (K:=jh p n l aq cB cj vs (M++[(j0 (eO ws),kZ (gO l.length (ds p n l) ws))])) I C aL (by rw [uy];exact (by simp only [jh,ed,dU,cS];exact aX)) ⟨_,eL.add hw,(kE.refl _ _ _).add hw (lt_succ_self _),by rw [uy];rfl,rfl⟩
 | false=>
 rw [a7,if_neg a'] at uy;rw [if_neg a'];obtain ⟨abw,BF⟩:=WT (A:=l.length) (h:=ds p n l) (vs:=ws) (fun v h=>eH v (hw.mem h)) a7 (gO l.length (ds p n l));rw [BF,getD_some] at uy;refine hh I ?_;intro I;refine ae.b4 [0,3,50] C I (σ:=Nat×Option cr×List (List Int×af)) (fun q=>[(51,.int .i64 (q.1:Int)),(9,yQ q.2.1)]) (fun q=>jh p n l aq cB cj vs q.2.2)
  (fun q=>q.1≤l.length∧q9 l.length (ds p n l) vs q.2.2∧kE vs M q.2.2 ws.length∧(∀ t,q.2.1=some t→t.leaves≤128)∧(range l.length).foldl (lW (gO l.length (ds p n l)) ws) none=(List.range' q.1 (l.length-q.1)).foldl (lW (gO l.length (ds p n l)) ws) q.2.1) (fun q=>l.length-q.1) (0,none,M)
  ⟨zero_le _,eL,kE.refl _ _ _,(fun _ h=>by cases h),by rw [List.range_eq_range'];rfl⟩ (cq C) (by simp only [jh,ed,dU,cS];exact aX) ?_
 rintro ⟨i,out,tu⟩ ⟨aQ,xb,u0,gn,an⟩ I;simp only [jh,ed,dU,cS] at aQ xb u0 gn an I ⊢;have uV:=kE.none yS u0 hw a6;have Zt:=xb.len;refine b7 ?_;refine ae.cond C (fun au=>?_) (fun aV=>?_);rotate_left
 ·have aV:i=l.length:=by simp at aV;omega
  rw [aV,Nat.sub_self,List.range'_zero,foldl_nil,BF] at an;subst an;unfold yQ;refine sN I ?_;intro I;refine aN.AI ai I (xs:=j0 (eO ws)) (es:=tu) BE C C C (.inl C) C C C C C C Zt aY uV (fun I=>?_);refine gv ?_;exact Fin.bu (K:=jh p n l aq cB cj vs (tu++[(j0 (eO ws),kZ (gO l.length (ds p n l) ws))])) I C aL (by rw [uy];exact (by simp only [jh,ed,dU,cS];exact aX)) ⟨_,xb.add hw,(u0.mono (Nat.le_succ _)).add hw (lt_succ_self _),by rw [uy],rfl⟩
 have au:i<l.length:=by simpa using au
 rw [show l.length-i=(l.length-(i+1))+1 by omega,List.range'_succ,foldl_cons] at an;have dA:lW (gO l.length (ds p n l)) ws out i=if (gq i ws).isEmpty||(gr i ws).isEmpty then out else wY out (.test i (gO l.length (ds p n l) (gr i ws)) (gO l.length (ds p n l) (gq i ws))):=rfl
 repeat (first|(refine Sy I ?_;clear I;intro I)|refine aa.dY ai I rfl rfl rfl rfl rfl rfl rfl (fun cJ I=>?_))
 obtain ⟨jx,rfl⟩:∃ x,x=cJ:=⟨_,rfl⟩;have Iw:(fun u=>eO ((vs.take 0).filter fun v=>v.testBit i) u)=fun _=>false:=rfl
 refine ae.b4 [0,3,50,51,9,10,11,57,58] C I (σ:=Nat) (fun j=>[(59,.int .i64 (j:Int))]) (fun j=>(.own jx,.box 106 [.int .u64 (fS (fun u=>eO ((vs.take j).filter fun v=>v.testBit i) u) 0 64:Nat),.int .u64 (fS (fun u=>eO ((vs.take j).filter fun v=>v.testBit i) u) 64 64:Nat)])::jh p n l aq cB cj vs tu) (fun j=>j≤vs.length) (fun j=>vs.length-j) 0 (zero_le _) (cq C) (by
  simp only [Iw,Bs (fun _=>rfl),jh,ed,dU,cS]
  exact aX) ?_
 rintro j aK I;simp only [jh,ed,dU,cS] at aK I ⊢;refine b7 ?_;refine ae.cond C (fun cz=>?_) (fun aV=>?_)
 ·have cz:j<vs.length:=by simpa [hQ] using cz
  obtain ⟨v,av,ov⟩:=b1 (f:=fun v:Nat=>af.int .i64 (v:Int)) cz;have Ix:=yS v (mem_of_getElem? av);have ns:=Zr (i:=i) av;have Ee:=Oi (fun u=>eO ((vs.take j).filter fun v=>v.testBit i) u) v Ix;unfold kp at Ee;unfold hQ at I ⊢;refine dF ?_;refine aa.shr _ C C C C C C ag (sV ag) ?_;refine aa.bits _ C C C C C C (zT (n:=1) (Nat.lt_of_le_of_lt (Nat.shiftRight_le v i) ag) ag) ?_;refine fH ?_;have pO:=Im v i;cases oD:v.testBit i with
  | true=>
   simp only [oD,Bool.true_and] at ns;refine ae.cond C (fun _=>?_) (fun h=>by rw [pO,oD] at h;cases h);refine hh I ?_;intro I;exact bn.mk (j+1) I cz ca (by simp only [ns];exact aX) w1
  | false=>
   simp only [oD,Bool.false_and,Bool.or_false] at ns;refine ae.cond C (fun h=>by rw [pO,oD] at h;cases h) (fun _=>?_);refine gd ?_;exact bn.mk (j+1) I cz ca (by simp only [ns];exact aX) w1
 have aV:j=vs.length:=by simp [hQ] at aV;omega
 subst aV;rw [take_length] at I ⊢;have hand:=YG (eO ws) (fun u=>eO (vs.filter fun v=>v.testBit i) u);have Iy:=YH (eO ws) (fun u=>eO (vs.filter fun v=>v.testBit i) u);simp only [Zp hw i,Zq hw i] at hand Iy;unfold kp at hand Iy;refine ae.mF I 11 jx C .here (fun I=>?_);refine tZ ?_;refine ae.xM (σ:=Nat×Nat) (fun z=>[(0,.ptr cj 0),(3,.bw [.int .u64 (fS (eO ws) 0 64:Nat),.int .u64 (fS (eO ws) 64 64:Nat)] 0),(50,.int .i64 ((l.map ak.bK).length:Int)),(51,.int .i64 (i:Int)),(9,yQ out),(10,.int .i64 (i:Int)),(14,.ptr z.1 0),(15,.ptr z.2 0)]) (fun z=>(.own z.1,.box 106 [.int .u64 (fS (eO (gq i ws)) 0 64:Nat),.int .u64 (fS (eO (gq i ws)) 64 64:Nat)])::(.own z.2,.box 106 [.int .u64 (fS (eO (gr i ws)) 0 64:Nat),.int .u64 (fS (eO (gr i ws)) 64 64:Nat)])::jh p n l aq cB cj vs tu) (fun _=>True) ?_ ?_
 ·refine ae.qn ai mixed C (bc.run C ?_)
  refine bc.CD (i:=2) C C C C C C C hand ?_;refine bc.run C ?_;refine bc.CD (i:=5) C C C C C C C Iy ?_;refine bc.run C ?_;refine bc.many C (hM.c (j8.mk (i:=6) C C C C (aZ.dY ai I C C C C (X:=fun _ _=>False)) ?_ (fun _ _ h=>h.elim)) (hM.c (j8.mk (i:=7) C C C C (aZ.dY ai I C C C C (X:=fun _ _=>False)) ?_ (fun _ _ h=>h.elim)) hM.n))
  ·rintro _ _ ⟨BG,rfl,rfl,I⟩
   refine bc.dY 7 ai I C C C C C C C C C (fun q3 I=>?_);refine bc.run C ?_;refine bc.cT 8 ai I C C C C C C C C C C C aY b6 (fun I=>?_);refine bc.run C ?_;refine bc.cT 9 ai I C C C C C C C C C C C aY b6 (fun I=>?_);refine bc.run C ?_;refine bc.done C ?_;exact lJ.mk (BG,q3) I trivial (cq C) (by simp only [jh,ed,dU,cS,hQ];exact aX)
  ·rintro _ _ ⟨q3,rfl,rfl,I⟩
   refine bc.dY 6 ai I C C C C C C C C C (fun BG I=>?_);refine bc.run C ?_;refine bc.cT 8 ai I C C C C C C C C C C C aY b6 (fun I=>?_);refine bc.run C ?_;refine bc.cT 9 ai I C C C C C C C C C C C aY b6 (fun I=>?_);refine bc.run C ?_;refine bc.done C ?_;exact lJ.mk (BG,q3) I trivial (cq C) (by simp only [jh,ed,dU,cS,hQ];exact aX)
 rintro ⟨BG,q3⟩-I;unfold jh ed dU cS at I ⊢;refine ae.mF I 14 BG C .here (fun I=>?_);refine ae.mF I 15 q3 C .here (fun I=>?_);have c8:=OI yS (hw.filter fun v=>v.testBit i);have xI:=OI yS (hw.filter fun v => !v.testBit i);rw [show ws.filter (fun v=>v.testBit i)=gq i ws from rfl] at c8;rw [show ws.filter (fun v => !v.testBit i)=gr i ws from rfl] at xI;refine jS ?_;refine aa.Ed BE OK (xs:=j0 (eO (gq i ws))) (ys:=[0,0]) C C C C C C C C ?_;rw [c8];cases Ef:(gq i ws).isEmpty with
 | true=>
  rw [dA,Ef,Bool.true_or,if_pos C] at an;refine bC ?_;exact bn.mk (i+1,out,tu) I ⟨au,xb,u0,gn,an⟩ ca aX uW
 | false=>
 refine dy ?_;refine aa.Ed BE OK (xs:=j0 (eO (gr i ws))) (ys:=[0,0]) C C C C C C C C ?_;rw [xI];cases cP:(gr i ws).isEmpty with
 | true=>
  rw [dA,Ef,cP,Bool.or_true,if_pos C] at an;refine bC ?_;exact bn.mk (i+1,out,tu) I ⟨au,xb,u0,gn,an⟩ ca aX uW
 | false=>
 rw [dA,Ef,cP,if_neg a'] at an;have df:=DG (i:=i) (vs:=ws) (by rw [Ef,cP];rfl);have abx:=DF i ws;have H3:=A3 l.length (ds p n l) _ (gq i ws) (Nat.le_refl _);have lC:=A3 l.length (ds p n l) _ (gr i ws) (Nat.le_refl _);have lu:=fun M h=>a1 (gr i ws).length ag (gr i ws) (Nat.le_refl _) (hw.filter fun v => !v.testBit i) M h
 have Eg:=fun M h=>a1 (gq i ws).length ag (gq i ws) (Nat.le_refl _) (hw.filter fun v=>v.testBit i) M h
 obtain ⟨Zu,Zv,fn,CM,-,-⟩:=tk (gO l.length (ds p n l) (gr i ws));obtain ⟨ty,fU,acd,It,-,-⟩:=tk (gO l.length (ds p n l) (gq i ws));simp only [CM] at lu;simp only [It] at Eg;have OL:(cr.test i (gO l.length (ds p n l) (gr i ws)) (gO l.length (ds p n l) (gq i ws))).leaves≤128:=by rw [cr.leaves];omega
 refine c1 ?_;refine ae.xM (σ:=List (List Int×af)×Nat) (fun z=>[(0,.ptr cj 0),(3,.bw [.int .u64 (fS (eO ws) 0 64:Nat),.int .u64 (fS (eO ws) 64 64:Nat)] 0),(50,.int .i64 ((l.map ak.bK).length:Int)),(51,.int .i64 (i:Int)),(9,yQ out),(10,.int .i64 (i:Int)),(16,.ptr z.2 0)]) (fun z=>(.own z.2,.box 156 [.int .i64 (i:Int),.iface Zu Zv,.iface ty fU])::jh p n l aq cB cj vs z.1) (fun z=>q9 l.length (ds p n l) vs z.1∧kE vs tu z.1 ws.length) ?_ ?_
 ·refine ae.qn ai mixed C (bc.run C ?_)
  refine bc.many rfl (hM.c (j8.mk (i:=3) rfl rfl rfl rfl (aZ.b3 rfl rfl (lu tu xb) I aX) ?_ (fun x aj h=>by obtain ⟨_,_,_,_,_,_,h,_⟩:=h;cases h)) (hM.c (j8.mk (i:=8) rfl rfl rfl rfl (aZ.dY ai I rfl rfl rfl rfl (X:=fun _ _=>False)) ?_ (fun _ _ h=>h.elim)) hM.n))
  ·rintro _ _ ⟨aO,rfl,I,Eh,xc,Ei,⟨⟩,rfl⟩
   simp only [nil_append,cons_append] at I ⊢;refine bc.run C ?_;refine bc.many rfl (hM.c (j8.mk (i:=6) rfl rfl rfl rfl (aZ.b3 rfl rfl (Eg Eh xc) I aX) ?_ (fun x aj h=>by obtain ⟨_,_,_,_,_,_,h,_⟩:=h;cases h)) (hM.c (j8.mk (i:=8) rfl rfl rfl rfl (aZ.dY ai I rfl rfl rfl rfl (X:=fun _ _=>False)) ?_ (fun _ _ h=>h.elim)) hM.n))
   ·rintro _ _ ⟨aO,rfl,I,M2,r3,tv,⟨⟩,rfl⟩
    simp only [nil_append,cons_append] at I ⊢;refine bc.run C ?_;refine bc.dY 8 ai I C C C C C C C C C (fun xd I=>?_);refine bc.run C ?_;refine bc.cT 9 ai I C C C C C C C C C C C aY b6 (fun I=>?_);refine bc.run C ?_;refine bc.done C ?_;exact lJ.mk (M2,xd) I ⟨r3,(Ei.mono ag).trans tv ag⟩ (cq C) (by simp only [jh,ed,dU,cS,hQ];exact aX)
   ·rintro _ _ ⟨xd,rfl,rfl,I⟩
    refine bc.b3 6 rfl rfl rfl rfl rfl rfl rfl (Eg Eh xc) I aX ?_ (fun _ _ al _=>by obtain ⟨_,_,_,h,_⟩:=al;cases h);rintro _ _ ⟨M2,r3,tv,⟨⟩,rfl⟩ I;simp only [nil_append,cons_append] at I ⊢;refine bc.run C ?_;refine bc.cT 9 ai I C C C C C C C C C C C aY b6 (fun I=>?_);refine bc.run C ?_;refine bc.done C ?_;exact lJ.mk (M2,xd) I ⟨r3,(Ei.mono ag).trans tv ag⟩ (cq C) (by simp only [jh,ed,dU,cS,hQ];exact aX)
  ·rintro _ _ ⟨xd,rfl,rfl,I⟩
   refine bc.b3 3 rfl rfl rfl rfl rfl rfl rfl (lu tu xb) I aX ?_ (fun _ _ al _=>by obtain ⟨_,_,_,h,_⟩:=al;cases h);rintro _ _ ⟨Eh,xc,Ei,⟨⟩,rfl⟩ I;simp only [nil_append,cons_append] at I ⊢;refine bc.run C ?_;refine bc.b3 6 rfl rfl rfl rfl rfl rfl rfl (Eg Eh xc) I aX ?_ (fun _ _ al _=>by obtain ⟨_,_,_,h,_⟩:=al;cases h);rintro _ _ ⟨M2,r3,tv,⟨⟩,rfl⟩ I;simp only [nil_append,cons_append] at I ⊢;refine bc.run C ?_;refine bc.cT 9 ai I C C C C C C C C C C C aY b6 (fun I=>?_);refine bc.run C ?_;refine bc.done C ?_;exact lJ.mk (M2,xd) I ⟨r3,(Ei.mono ag).trans tv ag⟩ (cq C) (by simp only [jh,ed,dU,cS,hQ];exact aX)
 rintro ⟨M2,xd⟩ ⟨r3,tv⟩ I;unfold jh ed dU cS at I ⊢;refine ae.mF I 16 xd C .here (fun I=>?_);cases out with
 | none=>
  unfold yQ;refine bC ?_;exact bn.mk (i+1,some (.test i (gO l.length (ds p n l) (gr i ws)) (gO l.length (ds p n l) (gq i ws))),M2) I ⟨au,r3,u0.trans tv (Nat.le_refl _),(fun t h=>by cases h;exact OL),an⟩ OC aX uW
 | some o=>
  obtain ⟨to,Zw,abZ,Iz,-,-⟩:=tk o;have lb:=WX (.test i (gO l.length (ds p n l) (gr i ws)) (gO l.length (ds p n l) (gq i ws))) o ag (by have:=gn o C;omega);rw [kZ,CM,It,Iz] at lb;have wb:wY (some o) (.test i (gO l.length (ds p n l) (gr i ws)) (gO l.length (ds p n l) (gq i ws)))=if (cr.test i (gO l.length (ds p n l) (gr i ws)) (gO l.length (ds p n l) (gq i ws))).before o then some (.test i (gO l.length (ds p n l) (gr i ws)) (gO l.length (ds p n l) (gq i ws))) else some o:=rfl
  rw [wb] at an;have r6:yQ (some o) = .iface to Zw:=Iz;rw [r6];cases la:(cr.test i (gO l.length (ds p n l) (gr i ws)) (gO l.length (ds p n l) (gq i ws))).before o with
  | true=>
   rw [la] at lb;rw [la,if_pos C] at an;refine bW ?_;exact bn.mk (i+1,some (.test i (gO l.length (ds p n l) (gr i ws)) (gO l.length (ds p n l) (gq i ws))),M2) I ⟨au,r3,u0.trans tv (Nat.le_refl _),(fun t h=>by cases h;exact OL),an⟩ OC aX uW
  | false=>
   rw [la] at lb;rw [la,if_neg a'] at an;refine bW ?_;exact bn.mk (i+1,some o,M2) I ⟨au,r3,u0.trans tv (Nat.le_refl _),gn,an⟩ (by repeat (first|exact trivial|refine ⟨⟨_,rfl,aL⟩,?_⟩|refine ⟨⟨_,rfl,aS.of_eq (by (first|rw [jD ag]|exact Iz.symm))⟩,?_⟩)) aX uW
end Go.Proofs.YtnafpeohfbglmaaGreat
namespace Go.eb
open Go.Proofs.YtnafpeohfbglmaaGreat
def cr.all (P:List Int→Prop):cr→Prop
 | .leaf ms=>P ms
 | .test _ a b=>a.all P∧b.all P
theorem IA {P:List Int→Prop} (A:Nat) (h:Nat→List Int) (bt:P []) (gM:∀ v,P (h v)):∀ (n:Nat) (vs:List Nat),vs.length≤n→(gO A h vs).all P
  | n,vs,az=>by
    rw [HG];split
    · rw [cr.all]
      cases vs with
      | nil=>exact bt
      | cons v r=>exact gM v
    · refine M7 (Pr:=fun t=>t.all P) (by rw [cr.all];exact bt) (fun _ h=>by cases h) (fun i _ he=>?_)
      have aB:=DG he;cases n with
      | zero=>omega
      | succ n=>
        rw [cr.all];exact ⟨IA A h bt gM n _ ag,IA A h bt gM n _ ag⟩
theorem IB:∀ (t:cr) (L:List b0) (j:Nat) (x:b0),L.length≤j→(cr.laid L t)[j]? = some x→x.atom≥0→(j:Int)<x.no∧x.no<(cr.laid L t).length∧(j:Int)<x.yes∧x.yes<(cr.laid L t).length
  | .leaf ms,L,j,x,aK,ab,a7=>by
    rw [cr.laid,List.getElem?_append_right aK] at ab;cases h:j-L.length with
    | zero=>rw [h] at ab;cases ab;simp at a7
    | succ n=>rw [h] at ab;cases ab
  | .test i a b,L,j,x,aK,ab,a7=>by
    have U:=tl a (L++[⟨i,0,0,[]⟩]);have ad:=tl b (cr.laid (L++[⟨i,0,0,[]⟩]) a);have kQ:=a.qY;have Dk:=b.qY;have bN:(L++[(⟨i,0,0,[]⟩:b0)]).length=L.length+1:=by simp
    rw [bN] at U;have Zx:=IB a (L++[⟨i,0,0,[]⟩]);have Zy:=IB b (cr.laid (L++[⟨i,0,0,[]⟩]) a);have r2:cr.laid L (.test i a b)=(cr.laid (cr.laid (L++[⟨i,0,0,[]⟩]) a) b).set L.length ⟨i,(L.length:Int)+1,((cr.laid (L++[⟨i,0,0,[]⟩]) a).length:Int),[]⟩:=rfl;rw [r2] at ab ⊢;rw [List.length_set];by_cases yg:j=L.length
    · subst yg
      rw [List.getElem?_set_self ag] at ab;cases ab;simp only;omega
    · rw [List.getElem?_set_ne ag] at ab
      by_cases He:j<(cr.laid (L++[⟨i,0,0,[]⟩]) a).length
      · rw [A5 b _ j He] at ab
        have:=Zx j x ag ab a7;omega
      · have:=Zy j x ag ab a7
        omega
theorem IC {P:List Int→Prop} (bt:P []):∀ (t:cr) (L:List b0),t.all P→(∀ x∈L,P x.ms)→∀ x∈cr.laid L t,P x.ms
  | .leaf ms,L,aM,bN,x,ab=>by
    rw [cr.laid] at ab;rcases mem_append.1 ab with ab|ab
    · exact bN x ab
    · rw [mem_singleton.1 ab];exact aM
  | .test i a b,L,aM,bN,x,ab=>by
    have r2:cr.laid L (.test i a b)=(cr.laid (cr.laid (L++[⟨i,0,0,[]⟩]) a) b).set L.length ⟨i,(L.length:Int)+1,((cr.laid (L++[⟨i,0,0,[]⟩]) a).length:Int),[]⟩:=rfl;rw [r2] at ab;rcases List.mem_or_eq_of_mem_set ab with ab|rfl
    · refine IC bt b _ aM.2 (IC bt a _ aM.1 (fun y ay=>?_)) x ab
      rcases mem_append.1 ay with ay|ay
      · exact bN y ay
      · rw [mem_singleton.1 ay];exact bt
    · exact bt
theorem Zz {t:cr} (aM:t.all (fun ms=>ms.length≤16)) (aB:t.leaves≤500):DL (cr.laid [] t):=by
 have U:=tl t [];have ad:=t.qY;rw [List.length_nil] at U;exact ⟨by omega,by omega,IC (P:=fun ms=>ms.length≤16) a' t [] aM (fun _ h=>by cases h),fun i x ab a7=>IB t [] i x (zero_le _) ab a7⟩
theorem ZA {g:List b0} (h:gI g=true):DL g:=by
 obtain ⟨U,ad⟩:=wj h;refine ⟨U,by omega,fun x ab=>?_,fun i x ab a7=>?_⟩
 ·obtain ⟨i,aQ⟩:=getElem?_of_mem ab
  have az:=uq h aQ;by_cases a7:x.atom = -1
  ·exact ((np a7).1 az).2.2.1
  ·have:=((kc a7).1 az).2.2.2.2.2.2
   omega
 ·have:=(kc ag).1 (uq h ab)
  omega
end Go.eb
namespace Go.Proofs.YtnafpeohfbglmaaGreat
open Go.cU Go.eb
theorem ZB (g:List b0) (aw:g.length<bz):aR Tryz.prog 20 [fO g] (.cp [if gI g then .aA 4 ((small g).map eW) .bb else .aA 0 [] .nil,.int .i64 (if gI g then 0 else 2)]):=by
 have aq:=bA;refine aR.bh ai Tryz.func20 C C fun s I=>?_
 have a6:=C' g aw;unfold fO at *;cases hY:gI g with
 | false=>
  rw [hY] at a6;rw [if_neg a',if_neg a'];refine bW ?_;exact bl I
 | true=>
  rw [hY] at a6;rw [if_pos C,if_pos C];have ar:=No g (ZA hY);refine bW ?_;refine aa.b3 rfl rfl rfl rfl rfl ar I .nil ?_ (fun _ _ ⟨h,_⟩ _=>by cases h);rintro _ _ ⟨⟨⟩,rfl⟩ I;simp only [nil_append] at I ⊢;refine eu ?_;exact bl I
def ID (p:bP) (n:Int):af := .cp [if eY p n=0 then .aA 4 ((small (cr.laid [] (Hx p n))).map eW) .bb else .aA 0 [] .nil,.int .i64 (eY p n)]
theorem ZC (p:bP) (aD:fj p) (n:Int):aR Tryz.prog 13 [cA p,.int .i64 n] (ID p n):=by
 have aq:=bA;refine aR.bh ai Tryz.func13 C C fun s I=>?_
 have a7:=yG p aD n;unfold ID;unfold cA cL at *;refine dv ?_;refine aa.b3 rfl rfl rfl rfl rfl a7 I .nil ?_ (fun _ _ h _=>by rcases h with ⟨_,_,_,_,h,_⟩|⟨_,⟨_,h⟩,_⟩<;>cases h);rintro _ _ (⟨he,cj,aq,cB,⟨⟩,rfl⟩|⟨he,⟨v,⟨⟩⟩,rfl⟩) I
 ·rw [he,if_pos C,WL]
  obtain ⟨db,e5,dg,eF,fV⟩:=sc he;have ts:2^(cK p n).length≤2^7:=pow_le_pow_right ag e5;have kW:=Io p aD db n (cK p n) aq cB cj e5 dg eF fV;have fw:=D9 (b9 p) (cK p n);have eH:∀ v∈ik (b9 p) (cK p n),v<2^(cK p n).length:=fun v h=>Ot h
  have tp:=(uT db).1;generalize bN:cK p n=l at *;generalize IE:ik (b9 p) l=vs at *;have BF:=Zs p n l aq cB cj vs eH e5 ag tp vs.length vs (Nat.le_refl _) (jg.all vs) [] (fun _ h=>by cases h);have sD:=A3 l.length (ds p n l) _ vs (Nat.le_refl _);have sd:=IA (P:=fun ms=>ms.length≤16) l.length (ds p n l) a' (fun v=>by have:=yL n l v p.methods 0;unfold ds;omega) _ vs (Nat.le_refl _);generalize gO l.length (ds p n l) vs=t at *;have OM:=WY t [] none C cG;have vD:=Zz sd ag;have ZD:=No _ vD;simp only [cons_append,nil_append] at I ⊢;unfold ed dU cS at *;refine bC ?_;refine aa.b3 rfl rfl rfl rfl rfl kW I aX ?_ (fun _ _ ⟨h,_⟩ _=>by cases h);rintro _ _ ⟨⟨⟩,rfl⟩ I;simp only [cons_append,nil_append] at I ⊢
  repeat (first|(refine Sz I ?_;clear I;intro I)|refine aa.dY ai I rfl rfl rfl rfl rfl rfl rfl (fun cJ I=>?_))
  obtain ⟨ZE,rfl⟩:∃ x,x=cJ:=⟨_,rfl⟩;have Iw:eO (vs.take 0)=fun _=>false:=rfl
  refine ae.b4 [6,8,27,28] C I (σ:=Nat) (fun j=>[(29,.int .i64 (j:Int))]) (fun j=>(.own ZE,.box 106 [.int .u64 (fS (eO (vs.take j)) 0 64:Nat),.int .u64 (fS (eO (vs.take j)) 64 64:Nat)])::jh p n l aq cB cj vs []) (fun j=>j≤vs.length) (fun j=>vs.length-j) 0 (zero_le _) (cq C) (by
   simp only [Iw,Bs (fun _=>rfl),jh,ed,dU,cS]
   exact aX) ?_
  rintro j aK I;simp only [jh,ed,dU,cS,hQ] at aK I ⊢;refine b7 ?_;refine ae.cond C (fun au=>?_) (fun aV=>?_)
  ·have au:j<vs.length:=by simpa using au
   obtain ⟨v,av,ov⟩:=b1 (f:=fun v:Nat=>af.int .i64 (v:Int)) au;have Ix:v<128:=by have:=eH v (mem_of_getElem? av);omega
   have Ee:=Oi (eO (vs.take j)) v Ix;have hN:(fun u=>eO (vs.take j) u||u==v)=eO (vs.take (j+1)):=by
    funext u;rw [take_add_one,av];unfold eO;rw [List.contains_append];congr 1;simp;rfl
   rw [hN] at Ee;unfold kp at Ee;refine hh I ?_;intro I;exact bn.mk (j+1) I au ca aX w1
  have aV:j=vs.length:=by simp at aV;omega
  subst aV;rw [take_length] at I ⊢;unfold jh ed dU cS kp hQ at BF;unfold jZ jw at OM;refine cI I ?_;intro I;refine aa.b3 rfl rfl rfl rfl rfl BF I aX ?_ (fun _ _ h _=>by obtain ⟨_,_,_,h,_⟩:=h;cases h);rintro _ _ ⟨lY,-,-,⟨⟩,rfl⟩ I;simp only [cons_append,nil_append] at I ⊢;skip;refine aa.b3 rfl rfl rfl rfl rfl OM I .nil ?_ (fun _ _ h _=>by obtain ⟨_,_,h,_⟩:=h;cases h);rintro _ _ ⟨bB,df,⟨⟩,rfl⟩ I;have mg:=tl t [];have lk:=t.qY;rcases bB with _|⟨g2,gu,f'⟩
  ·have bt:cr.laid [] t=[]:=df
   rw [bt] at mg;simp at mg;omega
  obtain ⟨fp,gB,hp⟩:=df;simp only [cons_append,nil_append] at I ⊢;refine aa.run ai C ?_;refine aa.nil ?_;refine tZ ?_;refine ae.H7 I 11 g2 C aY hp (by rw [length_map]) (o3 _) gB (by have:=vD.len;omega) (fun I=>?_);rw [← DQ];refine jS ?_;refine aa.b3 rfl rfl rfl rfl rfl ZD I .nil ?_ (fun _ _ ⟨h,_⟩ _=>by cases h);rintro _ _ ⟨⟨⟩,rfl⟩ I;simp only [cons_append,nil_append] at I ⊢;refine eu ?_;exact bl I
 ·rw [if_neg he]
  simp only [nil_append] at I ⊢;refine eh ?_;refine ae.cond C (fun _=>?_) (fun h=>absurd fD he);refine gv ?_;exact bl I
def yT (c:Int):ak := .mk 2 0 [] c 0 []
def lZ:bP:=⟨[⟨[],[],[]⟩,⟨[3],[],[]⟩,⟨[],[],[]⟩],0,[1],[⟨1,0,yT 3,0⟩,⟨1,0,yT 4,1⟩,⟨1,0,.mk 6 0 [] 0 0 [yT 1,.mk 3 0 [] 0 5 []],2⟩],[⟨2,0,[]⟩,⟨2,0,[]⟩,⟨2,0,[]⟩,⟨2,0,[]⟩],3⟩
def o7:List b0:=[⟨0,1,4,[]⟩,⟨3,2,3,[]⟩,⟨-1,0,0,[]⟩,⟨-1,0,0,[2]⟩,⟨1,5,6,[]⟩,⟨-1,0,0,[0]⟩,⟨-1,0,0,[0,1]⟩]
theorem ON:eY lZ 0=0:=by kernel_rfl
theorem ZF:ik (b9 lZ) (cK lZ 0)=[0,1,3,4,12]:=by kernel_rfl
theorem ZG:sb lZ 0 3=0:=by kernel_rfl
theorem ZH:ds lZ 0 (cK lZ 0) 3=[0,1]:=by kernel_rfl
theorem ZI:sb lZ 0 2=5:=by kernel_rfl
theorem ZJ:small (cr.laid [] (Hx lZ 0))=o7:=by kernel_rfl
theorem ZK:uZ lZ [] 0 [(1,4)] o7=0:=by kernel_rfl
theorem ZL:leads o7 (BB lZ [] 0 [(1,4)])=(3,2):=by kernel_rfl
theorem ZM:lf o7=2:=by kernel_rfl
theorem ZN:gI o7=true:=by kernel_rfl
theorem ZO:small [⟨0,1,2,[]⟩,⟨-1,0,0,[]⟩,⟨-1,0,0,[]⟩]=[⟨0,1,1,[]⟩,⟨-1,0,0,[]⟩]:=by kernel_rfl
theorem ZP:gI [⟨0,1,2,[]⟩,⟨-1,0,0,[]⟩,⟨-1,0,0,[]⟩]=true:=by kernel_rfl
theorem IF (c:Int):aR Tryz.prog 50 [.int .i64 c] ((yT c).bK):=by
 have aq:=bA;refine aR.bh ai Tryz.func50 C C fun s I=>?_
 rw [ak.bX];unfold yT ak.cells
 repeat (first|(refine Kb I ?_;clear I;intro I)|refine aa.dY ai I rfl rfl rfl rfl rfl rfl rfl (fun cJ I=>?_))
 refine Fin.cx I (nO C C (bp.get aY I) C) ?_
 repeat (first|exact aL|exact aS.empty|exact aS.bb|refine aS.agg ?_|refine aS.aA ?_|exact cR.nil|refine cR.cons ?_ ?_)
theorem ZQ (u:Unit):aR Tryz.prog 67 [] (fO o7):=by
 have aq:=bA;refine aR.bh ai Tryz.func67 C C fun s I=>?_
 unfold fO;refine gv ?_;refine Fin.cx I C ?_;unfold o7;simp only [map_cons,map_nil,eW,gZ,bf,ba]
 repeat (first|exact aL|exact aS.empty|exact aS.bb|refine aS.agg ?_|refine aS.aA ?_|exact cR.nil|refine cR.cons ?_ ?_)
theorem ZR (u:Unit):aR Tryz.prog 51 [] (cA lZ):=by
 have aq:=bA;refine aR.bh ai Tryz.func51 C C fun s I=>?_
 have U:=IF 1;have al:=IF 3;have bd:=IF 4;rw [ak.bX] at U al bd;unfold ak.cells at U al bd
 repeat (first|(refine SA I ?_;clear I;intro I)|refine aa.dY ai I rfl rfl rfl rfl rfl rfl rfl (fun cJ I=>?_)|(refine SB I ?_;clear I;intro I))
 refine Fin.cx I (nO C C (bp.get aY I) C) ?_;unfold lZ cA cL;simp only [map_cons,map_nil,ll,nn,jc,mN,jd,kP,bf,ba,ak.path,ak.op,ak.arg,ak.cls,ak.n,ak.kids,ak.bX,ak.cells,yT]
 repeat (first|exact aL|exact aS.empty|exact aS.bb|refine aS.agg ?_|refine aS.aA ?_|exact cR.nil|refine cR.cons ?_ ?_)
theorem BH:fj lZ:=⟨by decide,by decide,by decide,by decide,by decide,by decide,by decide⟩
theorem OO (u:Unit):aR Tryz.prog 16 [] (.bool true):=by
 have aq:=bA;have U:=ZR ();have ad:=Ou lZ BH 0;have al:=Ir lZ BH 0 3;have bd:=Ir lZ BH 0 2;have bD:=ZC lZ BH 0;have gj:=Zn lZ BH 0 [] [(1,4)] dZ (fun _ h=>by cases h) dZ o7 dZ;have ib:=TD o7 dZ;have pL:=ZB [⟨0,1,2,[]⟩,⟨-1,0,0,[]⟩,⟨-1,0,0,[]⟩] dZ;have dz:=ZQ ();have s1:=s3 [0,1,3,4,12] [0,1,3,4,12] dZ dZ;have s2:=s3 [0,1] [0,1] dZ dZ;have OP:=s3 [2] [2] dZ dZ;have g1:=Lm o7 o7 dZ dZ dZ dZ;have g2:=Lm [⟨0,1,1,[]⟩,⟨-1,0,0,[]⟩] [⟨0,1,1,[]⟩,⟨-1,0,0,[]⟩] dZ dZ dZ dZ;unfold yN at ad;rw [ON,if_pos C,ZF] at ad;unfold yO at al bd;rw [ZG,if_pos C,show ((3:Int).toNat)=3 from rfl,ZH] at al;rw [ZI,if_neg dZ] at bd;unfold ID at bD;rw [ON,if_pos C,ZJ] at bD;unfold Iu at gj;rw [ZK,if_pos C,if_pos C,ZL] at gj;rw [ZN,if_pos C,if_pos C,ZM] at ib;rw [ZP,if_pos C,if_pos C,ZO] at pL;rw [show (([0,1,3,4,12]:List Int)==[0,1,3,4,12])=true from rfl] at s1;rw [show (([0,1]:List Int)==[0,1])=true from rfl] at s2;rw [show (([2]:List Int)==[2])=true from rfl] at OP;rw [show (o7==o7)=true from rfl] at g1;rw [show (([⟨0,1,1,[]⟩,⟨-1,0,0,[]⟩]:List b0)==[⟨0,1,1,[]⟩,⟨-1,0,0,[]⟩])=true from rfl] at g2;refine aR.bh ai Tryz.func16 C C fun s I=>?_
 unfold cA cL at *;refine ej ?_;refine aa.lL C C C C C s1 (.cons (aS.of_eq C) (.one aS.bb)) ?_;refine dy ?_;refine aa.lL C C C C C s2 (.cons (aS.of_eq C) (.one aS.bb)) ?_;refine oE ?_;refine aN.lL C C C C C gj (.cons aL (.cons aS.empty (.cons aL (.cons aS.bb (.one aL))))) ?_;refine c1 ?_
 refine aa.lL C C C C C pL (.one (by
  unfold fO
  simp only [map_cons,map_nil,eW,gZ,bf,ba]
  repeat (first|exact aL|exact aS.empty|exact aS.bb|refine aS.agg ?_|refine aS.aA ?_|exact cR.nil|refine cR.cons ?_ ?_))) ?_
 refine c1 ?_
 refine aa.lL C C C C C g2 (.cons (aS.of_eq C) (.one (by
  unfold fO
  simp only [map_cons,map_nil,eW,gZ,bf,ba]
  repeat (first|exact aL|exact aS.empty|exact aS.bb|refine aS.agg ?_|refine aS.aA ?_|exact cR.nil|refine cR.cons ?_ ?_)))) ?_
 refine eu ?_;exact bl I
def Ej (g:List b0):Bool:=decide (g.length>400)||g.any (fun x=>decide (x.ms.length>40))
theorem ZS (g:List b0) (aw:g.length<bz):aR Tryz.prog 17 [fO g] (.bool (Ej g)):=by
 have aq:=bA;refine aR.bh ai Tryz.func17 C C fun s I=>?_
 have bN:Ej g=(decide (g.length>400)||g.any (fun x=>decide (x.ms.length>40))):=rfl;unfold fO;refine b7 ?_;refine ae.cond C (fun h=>?_) (fun h=>?_)
 ·rw [show decide (g.length>400)=true by simp at h ⊢;omega,Bool.true_or] at bN
  rw [bN];refine gv ?_;exact bl I
 rw [show decide (g.length>400)=false by simp at h ⊢;omega,Bool.false_or] at bN;rw [bN];refine jb ?_;refine ae.b4 [0] C I (σ:=Nat) (fun j=>[(3,.int .i64 (j:Int))]) (fun _=>[]) (fun j=>j≤g.length∧g.any (fun x=>decide (x.ms.length>40))=(g.drop j).any (fun x=>decide (x.ms.length>40))) (fun j=>g.length-j) 0 ⟨zero_le _,rfl⟩ (cq C) .nil ?_;rintro j ⟨aK,an⟩ I
 try simp only at aK an I ⊢
 refine b7 ?_;refine ae.cond C (fun au=>?_) (fun aV=>?_);rotate_left
 ·have aV:j=g.length:=by simp at aV;omega
  rw [ep ag,any_nil] at an;rw [an];refine dN ?_;exact bl I
 have au:j<g.length:=by simpa using au
 obtain ⟨x,ab,bJ⟩:=b1 (f:=eW) au;rw [drop_cons ab,any_cons] at an;unfold eW gZ bf at bJ;refine dF ?_;refine ae.cond C (fun aC=>?_) (fun aC=>?_)
 ·rw [show decide (x.ms.length>40)=true by simp at aC ⊢;omega,Bool.true_or] at an
  rw [an];refine ja ?_;exact bl I
 ·rw [show decide (x.ms.length>40)=false by simp at aC ⊢;omega,Bool.false_or] at an
  refine gd ?_;exact bn.mk (j+1) I ⟨au,an⟩ ca .nil sO
theorem IG (a b:ak) (a7:a.kids=[]) (dI:b.kids=[]) (M':a.path.length<bz) (db:b.path.length<bz):aR Tryz.prog 84 [a.bK,b.bK] (.bool (fs a b)):=by
 have aq:=bA;refine aR.bh ai Tryz.func84 C C fun s I=>?_
 obtain ⟨o,x,p,c,n,ks⟩:=a;obtain ⟨o',oq,bj,oI,n',CT⟩:=b;simp only [ak.kids] at a7 dI;subst a7;subst dI;have U:=s3 p bj M' db;have he:fs (.mk o x p c n []) (.mk o' oq bj oI n' [])=(decide (o=o')&&(decide (x=oq)&&(decide (c=oI)&&(decide (n=n')&&p==bj)))):=rfl;simp only [ak.bX,ak.cells,ak.op,ak.arg,ak.path,ak.cls,ak.n,ak.kids,map_nil];unfold bf ba at U;cases ar:decide (o=o')&&(decide (x=oq)&&(decide (c=oI)&&(decide (n=n')&&p==bj))) with
 | false=>
  rw [he,ar];clear he
  repeat' (first|(with_reducible first|apply ae.seq|apply b5|apply fF|apply ae.ret|apply ae.skip|apply ae.block)|refine c0 C ?_|refine ae.cH ?_|refine aa.nil ?_|refine ae.ft C ?_|refine ae.gP C ?_|refine cE C ?_|refine aa.skip C C C ?_|refine aa.eg C C C C C cu ?_|(fail_if_success refine aa.same true C ?_);(fail_if_success refine aa.same false C ?_);refine aa.gV C C (fun h=>?_) (fun h=>?_))
  all_goals (try (refine Fin.cx I C ?_;exact aL))
  all_goals (exfalso;clear I;grind)
 | true=>
  rw [he,ar];simp only [and_eq_true,decide_eq_true_eq,beq_iff_eq] at ar;obtain ⟨rfl,rfl,rfl,rfl,rfl⟩:=ar;rw [show (p==p)=true from beq_iff_eq.2 C] at U;refine dv ?_;refine aa.cY 11 C a' ?_;refine dy ?_;refine aa.cY 18 C a' ?_;refine dy ?_;refine aa.cY 25 C a' ?_;refine dy ?_;refine aa.cY 32 C a' ?_;refine bW ?_;refine ae.b4 [51] C I (σ:=Nat) (fun j=>[(52,.int .i64 (j:Int))]) (fun _=>[]) (fun j=>j=0) (fun j=>0) 0 C (cq C) .nil ?_;rintro j rfl I
  try simp only at I ⊢
  refine bC ?_;exact bl I
theorem tr {w:bx} {f:ak} (h:gx w f=true) (aB:f.cW=true):f.kids=[]:=by
 rw [nh,and_eq_true] at h;have h:=h.1;unfold hX at h;simp only [and_eq_true,decide_eq_true_eq] at h;have aE:=h.2.2.1;have:pA f.op=0:=by
  unfold ak.cW at aB;simp only [and_eq_true,decide_eq_true_eq] at aB;unfold pA;grind
 rw [this] at aE;exact List.eq_nil_of_length_eq_zero aE
theorem IH (v i:Nat) (av:v<2^63) (aQ:i<64):aR Tryz.prog 126 [.int .i64 (v:Int),.int .i64 (i:Int)] (.bool (v.testBit i)):=by
 have aq:=bA;refine aR.bh ai Tryz.func126 C C fun s I=>?_
 have pO:((((v >>> i) &&& 1:Nat):Int)==1)=v.testBit i:=A0 v i;refine dv ?_;refine aa.shr _ C C C C C C ag (sV ag) ?_;refine aa.bits _ C C C C C C (zT (n:=1) (Nat.lt_of_le_of_lt (Nat.shiftRight_le v i) av) ag) ?_;refine eu ?_;exact Fin.cx I C (aS.of_eq (congrArg af.bool pO))
theorem ZT (f:ak):aR Tryz.prog 189 [f.bK] (.bool f.cW):=by
 have aq:=bA;refine aR.bh ai Tryz.func189 C C fun s I=>?_
 rw [ak.bX]
 repeat' (first|(with_reducible first|apply ae.seq|apply b5|apply ae.ret)|refine c0 C ?_|refine ae.cH ?_|refine aa.nil ?_|refine cE C ?_|refine aa.skip C C C ?_|(fail_if_success refine aa.same true C ?_);(fail_if_success refine aa.same false C ?_);refine aa.gV C C (fun h=>?_) (fun h=>?_))
 all_goals (refine Fin.cx I C (aS.of_eq (congrArg af.bool ?_));clear I;unfold ak.cW;grind)
theorem ZU (w:bx) (l:List ak) (f:ak) (aB:iI w l) (az:l.length<bz) (a6:gx w f=true∧f.cW=true):aR Tryz.prog 190 [cS l,f.bK] (.bool (l.any fun x=>fs x f)):=by
 have aq:=bA;refine aR.bh ai Tryz.func190 C C fun s I=>?_
 have aE:=tr a6.1 a6.2;have aD:=q6 a6.1 a6.2;unfold cS;rw [ak.bX];unfold ak.cells;refine gm ?_;refine ae.b4 [0,3] C I (σ:=Nat) (fun j=>[(5,.int .i64 (j:Int))]) (fun _=>[]) (fun j=>j≤l.length∧(l.any fun x=>fs x f)=(l.drop j).any fun x=>fs x f) (fun j=>l.length-j) 0 ⟨zero_le _,rfl⟩ (cq C) aX ?_;rintro j ⟨aK,an⟩ I
 try simp only at aK an I ⊢
 refine b7 ?_;refine ae.cond C (fun au=>?_) (fun aV=>?_);rotate_left
 ·have aV:j=l.length:=by simp at aV;omega
  rw [ep ag,any_nil] at an;rw [an];refine dN ?_;exact bl I
 have au:j<l.length:=by simpa using au
 obtain ⟨x,ab,bJ⟩:=b1 (f:=ak.bK) au;have tw:=aB x (mem_of_getElem? ab);have jy:=IG x f (tr tw.1 tw.2) aE (by have:=q6 tw.1 tw.2;omega) ag;rw [drop_cons ab,any_cons] at an;rw [ak.bX] at bJ;rw [ak.bX,ak.bX] at jy;unfold ak.cells at bJ jy;cases aC:fs x f with
 | true=>
  rw [aC] at jy an;rw [an];refine bW ?_;exact bl I
 | false=>
  rw [aC] at jy an;refine bW ?_;exact bn.mk (j+1) I ⟨au,an⟩ ca aX mO
theorem ZV (l:List ak) (x:ak) (r:List ak):(kD (x::r)).foldl hF l=(kD r).foldl hF ((jf x).foldl hF l):=by
 rw [kD,List.foldl_append]
mutual
theorem OQ:∀ f:ak,(jf f).length≤f.size
  | .mk o a p c n ks=>by
    have h:=OR ks;have e:=(ak.mk o a p c n ks).size_eq;have yb:(ak.mk o a p c n ks).kids=ks:=rfl;rw [yb] at e;rw [jf];split
    · simp;omega
    · omega
theorem OR:∀ l:List ak,(kD l).length≤ak.hB l
  | []=>zero_le _
  | x::r=>by
    have U:=OQ x;have ad:=OR r;rw [kD,ak.hB,length_append];omega
end
def Ek (own:bL) (l:List ak):a8:=[(own,.row 58 6 l.length)]
def El (own:bL) (l:List ak):af := .aA 6 (l.map ak.bK) own
theorem ZW (w:bx):∀ (k:Nat) (f:ak),f.size≤k→gx w f=true→∀ (l:List ak) (own:bL),iI w l→l.length+f.size<bz →
  bE Tryz.prog 153 [El own l,f.bK] (Ek own l) (fun o K=>∃ cQ,o = .ret (El cQ ((jf f).foldl hF l))∧K=Ek cQ ((jf f).foldl hF l)):=by
 have aq:=bA;intro k
 induction k with
 | zero=>intro f h;have:=f.size_eq;omega
 | succ k a1=>
  intro f aE aw l own aB hlen;have iB:=f.size_eq;have kW:=ak.pz f.kids;have yK:=aw;rw [nh,and_eq_true] at aw;have U:=ZT f;refine bE.bh ai Tryz.func153 C C fun s I=>?_
  unfold El Ek at *;rw [DD];cases hD:f.cW with
  | true=>
   have yb:=tr yK hD;have ad:=ZU w l f aB ag ⟨yK,hD⟩;have aQ:[f].foldl hF l=if l.any (fun x=>fs x f) then l else l++[f]:=rfl
   rw [if_pos C,aQ];rw [hD] at U;unfold cS at ad;rw [ak.bX] at U ad ⊢;unfold ak.cells at *;rw [yb] at U ad ⊢;cases aC:l.any (fun x=>fs x f) with
   | true=>
    rw [aC] at ad;rw [if_pos C];refine bW ?_;refine ae.b4 [0,3] C I (σ:=Nat) (fun j=>[(5,.int .i64 (j:Int))]) (fun _=>[(own,.row 58 6 l.length)]) (fun j=>j=0) (fun j=>0) 0 C (cq C) (aH.dq _) ?_;rintro j rfl I
    try simp only at I ⊢
    refine bC ?_;exact Fin.bu (K:=[(own,.row 58 6 l.length)]) I C aL (aH.dq _) ⟨own,rfl,rfl⟩
   | false=>
    rw [aC] at ad;rw [if_neg a'];refine bW ?_;refine aa.gb ai I C C C C C C C en C C C C C C C C aY hi yz ag (fun bT I=>?_);have bY:l.map ak.bK++[af.agg [.int .i64 f.op,.int .i64 f.arg,.aA 1 (f.path.map fun i => .int .i64 i) .bb,.int .i64 f.cls,.int .i64 f.n,.aA 6 (List.map ak.bK []) .bb]]=(l++[f]).map ak.bK:=by
     rw [map_append,map_cons,map_nil,ak.bX];unfold ak.cells;rw [yb];rfl
    rw [bY];refine bC ?_;refine ae.b4 [0,3] C I (σ:=Nat) (fun j=>[(5,.int .i64 (j:Int))]) (fun _=>[((.own bT),.row 58 6 (l++[f]).length)]) (fun j=>j=0) (fun j=>0) 0 C (cq C) (by rw [length_append];exact aH.dq _) ?_;rintro j rfl I
    try simp only at I ⊢
    refine bC ?_;exact Fin.bu (K:=[((.own bT),.row 58 6 (l++[f]).length)]) I C aL (aH.dq _) ⟨(.own bT),rfl,rfl⟩
  | false=>
   rw [if_neg a'];rw [hD] at U;rw [ak.bX] at U ⊢;unfold ak.cells at *;refine bW ?_;refine ae.b4 [3] C I (σ:=Nat×List ak×bL) (fun q=>[(5,.int .i64 (q.1:Int)),(0,.aA 6 (q.2.1.map ak.bK) q.2.2)]) (fun q=>[(q.2.2,.row 58 6 q.2.1.length)]) (fun q=>q.1≤f.kids.length∧(kD f.kids).foldl hF l=(kD (f.kids.drop q.1)).foldl hF q.2.1∧iI w q.2.1∧q.2.1.length+ak.hB (f.kids.drop q.1)<bz) (fun q=>f.kids.length-q.1) (0,l,own) ⟨zero_le _,rfl,aB,by show l.length+ak.hB f.kids<bz;omega⟩ (cq C) (aH.dq _) ?_;rintro ⟨j,c,pP⟩ ⟨aK,an,aC,cv⟩ I
   try simp only at aK an aC cv I ⊢
   refine b7 ?_;refine ae.cond C (fun au=>?_) (fun aV=>?_);rotate_left
   ·have aV:j=f.kids.length:=by simp at aV;omega
    rw [ep ag,kD,foldl_nil] at an;rw [an];refine dN ?_;exact Fin.bu (K:=[(pP,.row 58 6 c.length)]) I C aL (aH.dq _) ⟨pP,rfl,rfl⟩
   have au:j<f.kids.length:=by simpa using au
   obtain ⟨x,ab,bJ⟩:=b1 (f:=ak.bK) au;have yJ:=ka aw.2 (mem_of_getElem? ab);have c5:=ak.hV (mem_of_getElem? ab);rw [drop_cons ab,ak.hB] at cv;rw [drop_cons ab,ZV] at an;have i1:=a1 x ag yJ c pP aC ag;have aI:=Ie (w:=w) 0 (jf x) c aC (DY x w yJ);have b':=OQ x;rw [ak.bX] at i1 bJ;unfold ak.cells at i1 bJ;refine dF ?_;refine aa.b3 rfl rfl rfl rfl rfl i1 I (aH.dq _) ?_ (fun _ _ h _=>by obtain ⟨_,h,_⟩:=h;cases h);rintro _ _ ⟨bT,⟨⟩,rfl⟩ I;simp only [append_nil,cons_append,nil_append] at I ⊢;refine fG ?_;exact bn.mk (j+1,(jf x).foldl hF c,bT) I ⟨au,an,aI.1,by show ((jf x).foldl hF c).length+ak.hB (f.kids.drop (j+1))<bz;omega⟩ ca (aH.dq _) nY
theorem Em (p:bP) (aD:fj p) (db:gy p=true) (n:Int):aR Tryz.prog 112 [cA p,.int .i64 n] (cS (cK p n)):=by
 have aq:=bA;have hs:=(uT db).1;have U:=fun (f:ak) aw l own aB hlen=>ZW (b9 p) f.size f (Nat.le_refl _) aw l own aB hlen
 have vO:∀ j,(p.methods.take j).foldl (iG n) []=(p.methods.take j).foldl (iG n) []:=fun _=>rfl
 refine aR.bh ai Tryz.func112 C C fun s I=>?_
 unfold cA cL cS El Ek at *;refine gm ?_;refine ae.h7 I 58 6 0 fun I=>?_
 refine ae.b4 [1,2] C I (σ:=Nat×bL) (fun q=>[(6,.int .i64 (q.1:Int)),(5,.aA 6 (((p.methods.take q.1).foldl (iG n) []).map ak.bK) q.2)]) (fun q=>[(q.2,.row 58 6 ((p.methods.take q.1).foldl (iG n) []).length)]) (fun q=>q.1≤p.methods.length) (fun q=>p.methods.length-q.1) (0,.nil) (zero_le _) ⟨⟨_,rfl,aL⟩,⟨_,rfl,aS.nil gW⟩,trivial⟩ (aH.dq _) ?_;rintro ⟨j,own⟩ aK I;simp only at aK I ⊢;refine b7 ?_;refine ae.cond C (fun au=>?_) (fun aV=>?_);rotate_left
 ·have aV:j=p.methods.length:=by simp at aV;omega
  subst aV;rw [take_length];refine dN ?_;exact Fin.cx I C aS.bb
 have au:j<p.methods.length:=by simpa using au
 obtain ⟨m,ab,bJ⟩:=b1 (f:=ll) au;have xE:=mem_of_getElem? ab;have ZX:=Bl db xE;have pd:=Ig db n (p.methods.take j) [] (fun m hm=>List.mem_of_mem_take hm) (fun _ h=>by cases h);have wa:(p.methods.take j).length≤16:=by rw [length_take];omega
 have tf:=aD.facts m xE;have aI:(p.methods.take (j+1)).foldl (iG n) []=iG n ((p.methods.take j).foldl (iG n) []) m:=by rw [iA ab,List.foldl_append];rfl
 have U:=U m.fact (rA _ _ _ _ ZX) ((p.methods.take j).foldl (iG n) []) own pd.1 (by have:=pd.2;simp only [List.length_nil] at this;omega);generalize (p.methods.take j).foldl (iG n) []=c at *;rw [show iG n c m=if m.gen=n then (jf m.fact).foldl hF c else c from rfl] at aI;rw [ak.bX] at U;unfold ak.cells at U;unfold ll nn at bJ;refine dF ?_;refine ae.cond C (fun aw=>?_) (fun aw=>?_);rotate_left
 ·rw [if_neg (by simpa using aw)] at aI
  refine gd ?_;exact bn.mk (j+1,own) I au OD (by simp only [aI];exact aH.dq _) oc
 rw [if_pos (by simpa using aw)] at aI;refine dF ?_;refine aa.b3 rfl rfl rfl rfl rfl U I (aH.dq _) ?_ (fun _ _ h _=>by obtain ⟨_,h,_⟩:=h;cases h);rintro _ _ ⟨bT,⟨⟩,rfl⟩ I;simp only [append_nil,cons_append,nil_append] at I ⊢;refine fG ?_;exact bn.mk (j+1,bT) I au OD (by simp only [aI];exact aH.dq _) oc
def ny (w:bx) (L:List cf):Prop:=L.length<4096∧tg w L
theorem ny.at {w:bx} {L:List cf} (h:ny w L) {x:cf} (ab:x∈L):x.1.cW=true∧x.1.path.length≤2 ∧ -1000000000≤x.1.n∧x.1.n≤1000000000∧(x.1.op=2→0≤x.1.cls∧x.1.cls<3+(w.ps.length:Int)):=by
 obtain ⟨az,aB⟩:=h.2 x ab;refine ⟨aB,(Dt az aB).1,?_⟩;simp only [hX,aB,if_true,and_eq_true,decide_eq_true_eq] at az;have ad:=az.2.2.2.2.2.2.2;unfold kr at ad;by_cases al:x.1.op=2
 ·rw [if_pos al] at ad
  simp only [and_eq_true,decide_eq_true_eq] at ad;exact ⟨by omega,by omega,fun _=>ad.2⟩
 ·rw [if_neg al] at ad
  simp only [and_eq_true,decide_eq_true_eq] at ad;exact ⟨by omega,by omega,fun h=>absurd h al⟩
theorem ny.on {w:bx} {L:List cf} (h:ny w L) (arg:Int) (path:List Int):ny w (fo L arg path):=
 ⟨Nat.lt_of_le_of_lt (length_filter_le _ _) h.1,fun x ab=>h.2 x (mem_filter.1 ab).1⟩
theorem ZY (L:List cf) (arg:Int) (path:List Int):(fo L arg path).length≤L.length:=length_filter_le _ _
theorem ZZ {L:List cf} {j:Nat} {x:cf} (h:L[j]? = some x) (q:cf→Bool):(L.take (j+1)).filter q=(L.take j).filter q++(if q x then [x] else []):=by
 rw [iA h,List.filter_append];congr 1;by_cases bq:q x=true
 ·rw [if_pos bq,filter_cons,if_pos bq];rfl
 ·rw [if_neg bq,filter_cons,if_neg bq];rfl
theorem II (w:bx) (L:List cf) (arg:Int) (path:List Int) (bN:ny w L) (aD:path.length≤3):aR Tryz.prog 212 [kB w L arg path] (n5 (fo L arg path)):=by
 have aq:=bA;have OS:=bN.1;refine aR.bh ai Tryz.func212 C C fun s I=>?_
 obtain ⟨xs,c5⟩:∃ xs:Nat→List af,∀ j,xs j=(fo (L.take j) arg path).map (fun x=>(ij x).bK):=⟨_,fun _=>rfl⟩;have bt:xs 0=[]:=by rw [c5];rfl
 have x9:∀ j,(xs j).length≤L.length:=fun j=>by
  rw [c5,length_map];refine Nat.le_trans (ZY _ _ _) ?_;rw [length_take];omega
 unfold kB n5 c9 bf;refine gm ?_;refine ae.h7 I 58 6 0 fun I=>?_
 refine ae.b4 [1,9,10] C I (σ:=Nat×bL) (fun q=>[(11,.int .i64 (q.1:Int)),(3,.aA 6 (xs q.1) q.2)]) (fun q=>[(q.2,.row 58 6 (xs q.1).length)]) (fun q=>q.1≤L.length) (fun q=>L.length-q.1) (0,.nil) (zero_le _) ⟨⟨_,rfl,aL⟩,⟨_,rfl,by rw [bt];exact aS.nil gW⟩,trivial⟩ wh ?_;rintro ⟨j,own⟩ aK I;simp only at aK I ⊢;refine b7 ?_;refine ae.cond C (fun au=>?_) (fun aV=>?_);rotate_left
 ·have aV:j=L.length:=by simp at aV;omega
  subst aV;have he:xs L.length=(fo L arg path).map (fun x=>(ij x).bK):=by rw [c5,take_length]
  rw [he];refine dN ?_;exact Fin.cx I C aS.bb
 have au:j<L.length:=by simpa using au
 obtain ⟨x,ab,bJ⟩:=b1 (f:=fun x:cf=>(ij x).bK) au;have fc:=bN.at (mem_of_getElem? ab);have dA:=yi x fc.1;have bJ:(L.map fun x=>(ij x).bK)[j]? = some (ij x).bK:=bJ;rw [ak.bX] at bJ;simp only [ak.bX] at dA;have IJ:=s3 x.1.path path (by have:=fc.2.1;omega) ag;have ar:=c5 (j+1);have lC:=x9 j;unfold fo at ar;rw [ZZ ab] at ar;unfold ak.cells at bJ dA;unfold bf at IJ;refine ej ?_;by_cases a7:x.1.arg=arg;rotate_left
 ·have a6:rS arg path x=false:=by unfold rS;rw [decide_eq_false a7];rfl
  rw [a6,if_neg a',append_nil] at ar;have ar:xs (j+1)=xs j:=by rw [ar,c5];rfl
  refine aa.cY 25 C wE ?_;refine bC ?_;exact bn.mk (j+1,own) I au kq Ak yP
 refine aa.de 25 C wE ?_;cases bq:x.1.path==path with
 | false=>
  have a6:rS arg path x=false:=by unfold rS;rw [bq,Bool.and_false]
  rw [a6,if_neg a',append_nil] at ar;have ar:xs (j+1)=xs j:=by rw [ar,c5];rfl
  rw [bq] at IJ;refine bW ?_;exact bn.mk (j+1,own) I au kq Ak yP
 | true=>
  have a6:rS arg path x=true:=by unfold rS;rw [bq,decide_eq_true a7];rfl
  rw [a6,if_pos C,map_append] at ar;have ar:xs (j+1)=xs j++[(ij x).bK]:=by rw [ar,c5];rfl
  rw [ak.bX] at ar;unfold ak.cells at ar;have df:(xs (j+1)).length=(xs j).length+1:=by rw [ar];simp
  rw [bq] at IJ;refine c1 ?_;refine aa.gb ai I C C C C C C C en C C C C C C C C aY hi yz ag (fun bT I=>?_);refine fG ?_;exact bn.mk (j+1,.own bT) I au kq um yP
theorem OT (w:bx) (L:List cf) (arg:Int) (path:List Int) (bN:ny w L) (aD:path.length≤3):aR Tryz.prog 217 [kB w L arg path] (.bool (lp L arg path)):=by
 have aq:=bA;refine aR.bh ai Tryz.func217 C C fun s I=>?_
 have OS:=bN.1;have cF:lp L arg path = !L.any fun x => !x.2&&kX arg path x:=rfl
 unfold kB n5 c9 bf;refine gm ?_;refine ae.b4 [1,8,9] C I (σ:=Nat) (fun j=>[(10,.int .i64 (j:Int))]) (fun _=>[]) (fun j=>j≤L.length∧(L.any fun x => !x.2&&kX arg path x)=(L.drop j).any fun x => !x.2&&kX arg path x) (fun j=>L.length-j) 0 ⟨zero_le _,rfl⟩ (cq C) aX ?_;rintro j ⟨aK,an⟩ I
 try simp only at aK an I ⊢
 refine b7 ?_;refine ae.cond C (fun au=>?_) (fun aV=>?_);rotate_left
 ·have aV:j=L.length:=by simp at aV;omega
  rw [ep ag,any_nil] at an;rw [cF,an];refine dN ?_;exact bl I
 have au:j<L.length:=by simpa using au
 obtain ⟨x,ab,bJ⟩:=b1 (f:=fun x:cf=>(ij x).bK) au;have fc:=bN.at (mem_of_getElem? ab);have dA:=yi x fc.1;have bJ:(L.map fun x=>(ij x).bK)[j]? = some (ij x).bK:=bJ;rw [ak.bX] at bJ;simp only [ak.bX] at dA;have yU:=MC x.1.path path (by have:=fc.2.1;omega) ag;rw [drop_cons ab,any_cons] at an;rw [show kX arg path x=(decide (x.1.arg=arg)&&uF x.1.path path) from rfl] at an;unfold ak.cells at bJ dA;unfold bf at yU;cases az:x.2 with
 | true=>
  rw [az] at dA an;refine ej ?_;exact bn.mk (j+1) I ⟨au,by rw [an];rfl⟩ ca aX yP
 | false=>
  rw [az] at dA an;refine ej ?_;by_cases a7:x.1.arg=arg;rotate_left
  ·rw [decide_eq_false a7] at an
   refine aa.cY 28 C wE ?_;refine bC ?_;exact bn.mk (j+1) I ⟨au,by rw [an];rfl⟩ ca aX yP
  refine aa.de 28 C wE ?_;rw [decide_eq_true a7] at an;cases bq:uF x.1.path path with
  | false=>
   rw [bq] at yU an;refine bW ?_;exact bn.mk (j+1) I ⟨au,by rw [an];rfl⟩ ca aX yP
  | true=>
   rw [bq] at yU an;rw [cF,an];refine bW ?_;exact bl I
theorem OU (w:bx) (hw:w.owner.length≤40) (L:List cf) (arg:Int) (path:List Int) (bN:ny w L) (aD:path.length≤2):aR Tryz.prog 215 [kB w L arg path] (bf (jI w.owner.length L arg path)):=by
 have aq:=bA;have OS:=bN.1;refine aR.bh ai Tryz.func215 C C fun s I=>?_
 obtain ⟨xs,c5⟩:∃ xs:Nat→List af,∀ j,xs j=(jI j L arg path).map ba:=⟨_,fun _=>rfl⟩;have bt:xs 0=[]:=by rw [c5];rfl
 have fc:∀ j,(xs j).length≤j:=fun j=>by
  rw [c5,length_map];unfold jI;rw [length_map];refine Nat.le_trans (length_filter_le _ _) (Nat.le_of_eq length_range)
 have uU:∀ j,xs (j+1)=xs j++(if mT L arg path (j:Nat) then [.int .i64 (j:Nat)] else []):=fun j=>by
  rw [c5,c5];unfold jI;rw [List.range_succ,List.filter_append,map_append,map_append];congr 1;cases h:mT L arg path (j:Nat) with
  | true=>rw [filter_cons,if_pos (by exact h)];rfl
  | false=>rw [filter_cons,if_neg (by rw [h];simp)];rfl
 have kv:=fun k:Nat=>Hj w L arg path (k:Int) ag
 have lk:∀ k:Nat,(path++[(k:Int)]).length≤3:=fun k=>by rw [length_append];simp;omega
 unfold kB n5 c9 bf at *;refine gm ?_;refine ae.h7 I 3 1 0 fun I=>?_
 refine ae.b4 [1,13] C I (σ:=Nat×bL) (fun q=>[(14,.int .i64 (q.1:Int)),(3,.aA 1 (xs q.1) q.2)]) (fun q=>[(q.2,.row 3 1 (xs q.1).length)]) (fun q=>q.1≤w.owner.length) (fun q=>w.owner.length-q.1) (0,.nil) (zero_le _) ⟨⟨_,rfl,aL⟩,⟨_,rfl,by rw [bt];exact aS.nil gW⟩,trivial⟩ wh ?_;rintro ⟨j,own⟩ aK I;simp only at aK I ⊢;refine b7 ?_;refine ae.cond C (fun au=>?_) (fun aV=>?_);rotate_left
 ·have aV:j=w.owner.length:=by simp at aV;omega
  subst aV;rw [c5];refine dN ?_;exact Fin.cx I C aS.bb
 have au:j<w.owner.length:=by simpa using au
 have ar:=uU j;have lC:=fc j;have wH:=lk j;have kv:=kv j;refine jb ?_;refine ae.b4 [1,3,4,13,14,18,19] C I (σ:=Nat) (fun k=>[(20,.int .i64 (k:Int)),(5,.bool ((L.take k).any (kX arg (path++[(j:Int)]))))]) (fun _=>[(own,.row 3 1 (xs j).length)]) (fun k=>k≤L.length) (fun k=>L.length-k) 0 (zero_le _) (cq C) (aH.dq _) ?_;rintro k aE I
 try simp only at aE I ⊢
 refine b7 ?_;refine ae.cond C (fun cz=>?_) (fun dr=>?_);rotate_left
 ·have dr:k=L.length:=by simp at dr;omega
  subst dr;rw [take_length];have aM:mT L arg path (j:Nat)=L.any (kX arg (path++[(j:Int)])):=rfl;rw [aM] at ar;cases aC:L.any (kX arg (path++[(j:Int)])) with
  | false=>
   rw [aC,if_neg a',append_nil] at ar;refine bC ?_;exact bn.mk (j+1,own) I au kq Ak Da
  | true=>
   rw [aC,if_pos C] at ar;have df:(xs (j+1)).length=(xs j).length+1:=by rw [ar];simp
   refine bC ?_;refine aa.gb ai I C C C C C C C en C C C C C C C C aY hi j9 ag (fun bT I=>?_);refine fG ?_;exact bn.mk (j+1,.own bT) I au kq um Da
 have cz:k<L.length:=by simpa using cz
 obtain ⟨x,ab,bJ⟩:=b1 (f:=fun x:cf=>(ij x).bK) cz;have fc:=bN.at (mem_of_getElem? ab);have dA:=yi x fc.1;have bJ:(L.map fun x=>(ij x).bK)[k]? = some (ij x).bK:=bJ;rw [ak.bX] at bJ;simp only [ak.bX] at dA;have yU:=MC x.1.path (path++[(j:Int)]) (by have:=fc.2.1;omega) ag;have sd:(L.take (k+1)).any (kX arg (path++[(j:Int)]))=((L.take k).any (kX arg (path++[(j:Int)]))||kX arg (path++[(j:Int)]) x):=by rw [iA ab,List.any_append];simp
 unfold ak.cells at bJ dA;unfold bf ba at *;cases aC:(L.take k).any (kX arg (path++[(j:Int)])) with
 | true=>
  rw [aC,Bool.true_or] at sd;refine ej ?_;exact bn.mk (k+1) I cz Eb (aH.dq _) Ec
 | false=>
  rw [aC,Bool.false_or] at sd;rw [show kX arg (path++[(j:Int)]) x=(decide (x.1.arg=arg)&&uF x.1.path (path++[(j:Int)])) from rfl] at sd;refine ej ?_;by_cases a7:x.1.arg=arg;rotate_left
  ·rw [decide_eq_false a7,Bool.false_and] at sd
   refine aN.split 36 C (fun h=>absurd fD a7) (fun _=>?_);refine jE ?_;exact bn.mk (k+1) I cz Eb (aH.dq _) Ec
  rw [decide_eq_true a7,Bool.true_and] at sd;refine aN.split 36 C (fun _=>?_) (fun h=>absurd a7 fD);cases bq:uF x.1.path (path++[(j:Int)]) with
  | false=>
   rw [bq] at yU sd;refine bW ?_;exact bn.mk (k+1) I cz Eb (aH.dq _) Ec
  | true=>
   rw [bq] at yU sd;refine bW ?_;exact bn.mk (k+1) I cz Eb (aH.dq _) Ec
theorem OV (w:bx) (hw:w.owner.length≤40) (L:List cf) (arg:Int) (path:List Int) (bN:ny w L) (aD:path.length≤2):aR Tryz.prog 214 [kB w L arg path] (.bool (th w.owner.length L arg path)):=by
 have aq:=bA;refine aR.bh ai Tryz.func214 C C fun s I=>?_
 have U:=OU w hw L arg path bN aD;have eJ:th w.owner.length L arg path=(jI w.owner.length L arg path).all fun s=>lp L arg (path++[s]):=rfl
 have kv:=fun k:Int=>Hj w L arg path k ag
 have lk:∀ k:Int,(path++[k]).length≤3:=fun k=>by rw [length_append];simp;omega
 have h2:=fun k:Int=>OT w L arg (path++[k]) bN (lk k)
 have mg:(jI w.owner.length L arg path).length≤40:=by
  unfold jI;rw [length_map];have:=length_filter_le (fun s:Nat=>mT L arg path (s:Nat)) (range w.owner.length);rw [length_range] at this;omega
 generalize jI w.owner.length L arg path=l at U eJ mg;rw [eJ];unfold kB n5 c9 bf at *;refine bW ?_;refine ae.b4 [1,6,7] C I (σ:=Nat) (fun j=>[(8,.int .i64 (j:Int))]) (fun _=>[]) (fun j=>j≤l.length∧(l.all fun s=>lp L arg (path++[s]))=(l.drop j).all fun s=>lp L arg (path++[s])) (fun j=>l.length-j) 0 ⟨zero_le _,rfl⟩ (cq C) aX ?_;rintro j ⟨aK,an⟩ I
 try simp only at aK an I ⊢
 refine b7 ?_;refine ae.cond C (fun au=>?_) (fun aV=>?_);rotate_left
 ·have aV:j=l.length:=by simp at aV;omega
  rw [ep ag,all_nil] at an;rw [an];refine dN ?_;exact bl I
 have au:j<l.length:=by simpa using au
 obtain ⟨x,ab,bJ⟩:=b1 (f:=ba) au;rw [drop_cons ab,all_cons] at an;have kv:=kv x;have h2:=h2 x;unfold ba at *;cases aC:lp L arg (path++[x]) with
 | false=>
  rw [aC] at h2 an;rw [an];refine bW ?_;exact bl I
 | true=>
  rw [aC] at h2 an;refine bW ?_;exact bn.mk (j+1) I ⟨au,by rw [an];rfl⟩ ca aX mO
end Go.Proofs.YtnafpeohfbglmaaGreat
namespace Go.eb
theorem IK {a b:Int} {p q:List Int} (aD:p.length≤2) (bq:q.length≤2) (h:bs a p=bs b q):a=b∧p=q:=by
 unfold bs at h;simp only [List.cons.injEq,and_true] at h;obtain ⟨U,ad,al,bd⟩:=h;refine ⟨U,?_⟩
 match p,q,aD,bq with
 | [],[],_,_=>rfl
 | [x],[y],_,_=>simp at al;rw [al]
 | [x,oq],[y,M4],_,_=>simp at al bd;rw [al,bd]
 | [],[_],_,_=>simp at ad
 | [],[_,_],_,_=>simp at ad
 | [_],[],_,_=>simp at ad
 | [_],[_,_],_,_=>simp at ad
 | [_,_],[],_,_=>simp at ad
 | [_,_],[_],_,_=>simp at ad
def dk.core (k:dk):dk:={ k with gz:=false,bo:=[] }
theorem Z0 (k:dk) (b:Bool):(k.need b).core=k.core:=rfl
theorem OW (k:dk) (s:Int):(k.slot s).core=k.core:=rfl
theorem Z1 (k:dk) (x:cf):(k.ask x).core=k.core.ask x:=by
 unfold dk.ask dk.core
 repeat' split
 all_goals rfl
theorem Z2 (k:dk) (x:cf):(k.ask x).gz=k.gz:=by
 unfold dk.ask
 repeat' split
 all_goals rfl
theorem tx (σ:dT) (sp:List Int) (k:dk) (q:List Int):(σ.hP sp k) q=if q=sp then k else σ q:=rfl
theorem yV (neg:Bool) (arg:Int) (path:List Int):∀ (j:Nat) (σ:dT) (q:List Int),((gS neg arg path j σ) q).core=(σ q).core
  | 0,σ,q=>by
    rw [gS,tx];split
    · rename_i h;subst h;rfl
    · rfl
  | j+1,σ,q=>by
    rw [gS];simp only [tx];by_cases U:q=bs arg (path.take (j+1))
    · rw [if_pos U,Z0]
      split
      · rename_i ad;rw [OW,yV,U,ad]
      · rw [yV,U]
    · rw [if_neg U]
      split
      · rename_i ad;rw [OW,yV,ad]
      · rw [yV]
theorem OX (neg:Bool) (arg:Int) (path:List Int) (q:List Int):∀ (j:Nat) (σ:dT),(((gS neg arg path j σ) q).gz=true↔(σ q).gz=true∨neg=false∧∃ i,i≤j∧q=bs arg (path.take i))
  | 0,σ=>by
    rw [gS,tx];by_cases h:q=bs arg []
    · rw [if_pos h]
      unfold dk.need;simp only [or_eq_true,not_eq_true'];rw [h];constructor
      · rintro (U|U)
        · exact .inl U
        · exact .inr ⟨U,0,Nat.le_refl _,by simp⟩
      · rintro (U|⟨U,_⟩)
        · exact .inl U
        · exact .inr U
    · rw [if_neg h]
      constructor
      · exact .inl
      · rintro (U|⟨_,i,aQ,U⟩)
        · exact U
        · exact absurd (by rw [U,show i=0 by omega];simp) h
  | j+1,σ=>by
    have a1:=OX neg arg path q j σ;rw [gS];simp only [tx];by_cases h:q=bs arg (path.take (j+1))
    · rw [if_pos h]
      unfold dk.need;simp only [or_eq_true,not_eq_true'];have e:∀ k:dk,(k.slot (path.getD j 0)).gz=k.gz:=fun k=>rfl
      have:(if bs arg (path.take (j+1))=bs arg (path.take j) then ((gS neg arg path j σ) (bs arg (path.take j))).slot (path.getD j 0) else (gS neg arg path j σ) (bs arg (path.take (j+1)))).gz=((gS neg arg path j σ) q).gz:=by
        split
        · rename_i ad;rw [e,h,ad]
        · rw [h]
      rw [this,a1];constructor
      · rintro ((U|⟨U,i,aQ,ad⟩)|U)
        · exact .inl U
        · exact .inr ⟨U,i,by omega,ad⟩
        · exact .inr ⟨U,j+1,Nat.le_refl _,h⟩
      · rintro (U|⟨U,_⟩)
        · exact .inl (.inl U)
        · exact .inr U
    · rw [if_neg h]
      have:(if q=bs arg (path.take j) then ((gS neg arg path j σ) (bs arg (path.take j))).slot (path.getD j 0) else (gS neg arg path j σ) q).gz=((gS neg arg path j σ) q).gz:=by
        split
        · rename_i ad;rw [← ad];rfl
        · rfl
      rw [this,a1];constructor
      · rintro (U|⟨U,i,aQ,ad⟩)
        · exact .inl U
        · exact .inr ⟨U,i,by omega,ad⟩
      · rintro (U|⟨U,i,aQ,ad⟩)
        · exact .inl U
        · rcases Nat.lt_or_ge i (j+1) with al|al
          · exact .inr ⟨U,i,by omega,ad⟩
          · exact absurd (by rw [ad,show i=j+1 by omega]) h
theorem OY (neg:Bool) (arg:Int) (path:List Int) (q:List Int) (s:Int):∀ (j:Nat) (σ:dT),(s∈((gS neg arg path j σ) q).bo↔s∈(σ q).bo∨∃ i,i<j∧q=bs arg (path.take i)∧s=path.getD i 0)
  | 0,σ=>by
    rw [gS,tx];have:(if q=bs arg [] then (σ (bs arg [])).need neg else σ q).bo=(σ q).bo:=by
      split
      · rename_i h;rw [h];rfl
      · rfl
    rw [this];constructor
    · exact .inl
    · rintro (h|⟨i,h,_⟩)
      · exact h
      · omega
  | j+1,σ=>by
    have a1:=OY neg arg path q s j σ;rw [gS];simp only [tx]
    have e:(if q=bs arg (path.take (j+1)) then (if bs arg (path.take (j+1))=bs arg (path.take j) then ((gS neg arg path j σ) (bs arg (path.take j))).slot (path.getD j 0) else (gS neg arg path j σ) (bs arg (path.take (j+1)))).need neg
        else (if q=bs arg (path.take j) then ((gS neg arg path j σ) (bs arg (path.take j))).slot (path.getD j 0) else (gS neg arg path j σ) q)).bo=(if q=bs arg (path.take j) then ((gS neg arg path j σ) q).slot (path.getD j 0) else (gS neg arg path j σ) q).bo:=by
      by_cases h:q=bs arg (path.take (j+1))
      · rw [if_pos h,h]
        show (if _ then _ else _:dk).bo=_;split
        · rename_i ad;rw [ad]
        · rfl
      · rw [if_neg h]
        split
        · rename_i ad;rw [ad]
        · rfl
    rw [e];by_cases h:q=bs arg (path.take j)
    · rw [if_pos h]
      show s∈mQ _ _↔_;rw [Mz,a1];constructor
      · rintro (U|U|⟨i,aQ,U,ad⟩)
        · exact .inr ⟨j,lt_succ_self _,h,U⟩
        · exact .inl U
        · exact .inr ⟨i,by omega,U,ad⟩
      · rintro (U|⟨i,aQ,U,ad⟩)
        · exact .inr (.inl U)
        · rcases Nat.lt_or_ge i j with al|al
          · exact .inr (.inr ⟨i,al,U,ad⟩)
          · rw [show i=j by omega] at ad;exact .inl ad
    · rw [if_neg h,a1]
      constructor
      · rintro (U|⟨i,aQ,U,ad⟩)
        · exact .inl U
        · exact .inr ⟨i,by omega,U,ad⟩
      · rintro (U|⟨i,aQ,U,ad⟩)
        · exact .inl U
        · rcases Nat.lt_or_ge i j with al|al
          · exact .inr ⟨i,al,U,ad⟩
          · exact absurd (by rw [U,show i=j by omega]) h
open Go.Proofs.YtnafpeohfbglmaaGreat
theorem tg.path {w:bx} {L:List cf} (h:tg w L):∀ x∈L,x.1.path.length≤2:=fun x ab=>(Dt (h x ab).1 (h x ab).2).1
theorem Z3 (σ:dT) (x:cf) (q:List Int):((addLit σ x) q).core=if q=bs x.1.arg x.1.path then (σ q).core.ask x else (σ q).core:=by
 unfold addLit;rw [tx];split
 ·rename_i h;rw [Z1,yV,h]
 ·rw [yV]
theorem Z4 (σ:dT) (x:cf) (q:List Int):((addLit σ x) q).gz=true↔(σ q).gz=true∨x.2=false∧∃ i,i≤x.1.path.length∧q=bs x.1.arg (x.1.path.take i):=by
 rw [← OX];unfold addLit;rw [tx];split
 ·rename_i h;rw [Z2,h]
 ·rfl
theorem Z5 (σ:dT) (x:cf) (q:List Int) (s:Int):s∈((addLit σ x) q).bo↔s∈(σ q).bo∨∃ i,i<x.1.path.length∧q=bs x.1.arg (x.1.path.take i)∧s=x.1.path.getD i 0:=by
 rw [← OY x.2];unfold addLit;rw [tx];split
 ·rename_i h;rw [MA,h]
 ·rfl
theorem IL {x:cf} {arg:Int} {path:List Int}:kX arg path x=true↔x.1.arg=arg∧path.length≤x.1.path.length∧x.1.path.take path.length=path:=by
 unfold kX uF;simp
theorem Z6 {x:cf} {arg:Int} {path:List Int} (ab:x.1.path.length≤2) (aD:path.length≤2):(∃ i,i≤x.1.path.length∧bs arg path=bs x.1.arg (x.1.path.take i))↔kX arg path x=true:=by
 rw [IL];constructor
 ·rintro ⟨i,aQ,h⟩
  obtain ⟨U,ad⟩:=IK aD tA h;have aB:path.length=i:=by rw [ad,length_take];omega
  exact ⟨U.symm,by omega,by rw [aB];exact ad.symm⟩
 ·rintro ⟨U,ad,al⟩
  exact ⟨path.length,ad,by rw [U,al]⟩
theorem OZ:∀ (l:List Int) (i:Nat),i<l.length→l.take (i+1)=l.take i++[l.getD i 0]:=fun l i aQ=>by
 rw [take_add_one,getD_eq_getElem?_getD,getElem?_eq_getElem aQ];rfl
theorem Z7 {x:cf} {arg s:Int} {path:List Int} (ab:x.1.path.length≤2) (aD:path.length≤2):(∃ i,i<x.1.path.length∧bs arg path=bs x.1.arg (x.1.path.take i)∧s=x.1.path.getD i 0)↔kX arg (path++[s]) x=true:=by
 rw [IL,length_append,List.length_singleton];constructor
 ·rintro ⟨i,aQ,h,rfl⟩
  obtain ⟨U,ad⟩:=IK aD tA h;have aB:path.length=i:=by rw [ad,length_take];omega
  exact ⟨U.symm,by omega,by rw [aB,OZ _ _ aQ,← ad]⟩
 ·rintro ⟨U,ad,al⟩
  rw [OZ _ _ ag] at al;obtain ⟨bd,bD⟩:=List.append_inj' al rfl;exact ⟨path.length,by omega,by rw [U,bd],(List.cons.inj bD).1.symm⟩
theorem exists_cons {q:cf→Prop} {x:cf} {r:List cf}:(∃ y∈x::r,q y)↔q x∨∃ y∈r,q y:=by simp
section
variable {w:bx} {arg:Int} {path:List Int} (aD:path.length≤2)
include aD
theorem O0:∀ (L:List cf) (σ:dT),tg w L→((L.foldl addLit σ) (bs arg path)).core=(fo L arg path).foldl dk.ask (σ (bs arg path)).core
  | [],σ,_=>rfl
  | x::r,σ,h=>by
    rw [foldl_cons,O0 r _ (fun y ay=>h y (mem_cons_of_mem _ ay)),Z3];unfold fo;rw [filter_cons];have ab:=h.path x mem_cons_self;by_cases e:rS arg path x=true
    · rw [if_pos e]
      unfold rS at e;simp only [and_eq_true,decide_eq_true_eq,beq_iff_eq] at e;rw [if_pos (by rw [e.1,e.2]),foldl_cons]
    · rw [if_neg e,if_neg]
      intro ad;obtain ⟨al,bd⟩:=IK aD ab ad;exact e (by unfold rS;simp [al,bd])
theorem O1:∀ (L:List cf) (σ:dT),tg w L→(((L.foldl addLit σ) (bs arg path)).gz=true↔(σ (bs arg path)).gz=true∨∃ x∈L,x.2=false∧kX arg path x=true)
  | [],σ,_=>by simp
  | x::r,σ,h=>by
    rw [foldl_cons,O1 r _ (fun y ay=>h y (mem_cons_of_mem _ ay)),Z4,Z6 (h.path x mem_cons_self) aD,or_assoc,exists_cons]
theorem O2 (s:Int):∀ (L:List cf) (σ:dT),tg w L→(s∈((L.foldl addLit σ) (bs arg path)).bo↔s∈(σ (bs arg path)).bo∨∃ x∈L,kX arg (path++[s]) x=true)
  | [],σ,_=>by simp
  | x::r,σ,h=>by
    rw [foldl_cons,O2 s r _ (fun y ay=>h y (mem_cons_of_mem _ ay)),Z5,Z7 (h.path x mem_cons_self) aD,or_assoc,exists_cons]
variable {L:List cf} (bN:tg w L)
include bN
theorem O3:((et L) (bs arg path)).gz = !lp L arg path:=by
 rw [Bool.eq_iff_iff];unfold et lp;rw [O1 aD L wC bN];simp [wC,iT]
theorem BI (s:Int):s∈((et L) (bs arg path)).bo↔mT L arg path s=true:=by
 unfold et mT;rw [O2 aD s L wC bN];simp [wC,iT]
omit aD in
theorem xe {s:Int} (h:mT L arg path s=true):0≤s∧s<(w.owner.length:Int)∧(path++[s]).length≤2:=by
 unfold mT at h;obtain ⟨x,ab,h⟩:=any_eq_true.1 h;obtain ⟨-,ad,al⟩:=IL.1 h;obtain ⟨bd,bD⟩:=Dt (bN x ab).1 (bN x ab).2;have hm:s∈x.1.path:=List.mem_of_mem_take (by rw [al];simp);have:=bD s hm;exact ⟨this.1,this.2,by omega⟩
theorem En {s:Int}:s∈jI w.owner.length L arg path↔s∈((et L) (bs arg path)).bo:=by
 rw [BI aD bN];unfold jI;simp only [List.mem_map,mem_filter,mem_range];constructor
 ·rintro ⟨n,⟨-,h⟩,rfl⟩;exact h
 ·intro h
  have:=xe bN h;exact ⟨s.toNat,⟨by omega,by rw [show ((s.toNat:Nat):Int)=s by omega];exact h⟩,by omega⟩
theorem Z8:th w.owner.length L arg path=AW (et L) arg path:=by
 unfold th AW;rw [Bool.eq_iff_iff,all_eq_true,all_eq_true];constructor <;>
 ·intro h s ar
  have hz:=ar
  first|rw [En aD bN] at ar|rw [← En aD bN] at ar
  have fl:mT L arg path s=true:=by
   first|exact (BI aD bN s).1 ar|exact (BI aD bN s).1 hz
  have ad:=O3 (arg:=arg) (xe bN fl).2.2 bN;have U:=h s ar;rw [ad] at *;simpa using U
end
open Go.cU Go.Proofs.YtnafpeohfbglmaaGreat
def u1 (x:cf):Bool:=decide (x.1.op=2)&&(decide (x.1.cls>1) != x.2)
theorem O4:∀ (l:List cf) (k:dk),oX l (k.low,k.high,k.eX)=if l.any u1 then none else some ((l.foldl dk.ask k).low,(l.foldl dk.ask k).high,(l.foldl dk.ask k).eX)
  | [],k=>rfl
  | x::r,k=>by
    have a1:=O4 r (k.ask x);rw [oX,any_cons,foldl_cons];by_cases ad:x.1.op=2
    · have e:u1 x=(decide (x.1.cls>1) != x.2):=by unfold u1;rw [decide_eq_true ad,Bool.true_and]
      rw [if_pos ad,e];have cg:(k.ask x).low=k.low:=by unfold dk.ask;rw [if_pos ad];split<;>rfl
      have bY:(k.ask x).high=k.high:=by unfold dk.ask;rw [if_pos ad];split<;>rfl
      have eR:(k.ask x).eX=k.eX:=by unfold dk.ask;rw [if_pos ad];split<;>rfl
      rw [cg,bY,eR] at a1;cases aq:(decide (x.1.cls>1) != x.2) with
      | true=>simp
      | false=>rw [Bool.false_or,if_neg a',a1]
    · have e:u1 x=false:=by unfold u1;rw [decide_eq_false ad,Bool.false_and]
      rw [if_neg ad,e,Bool.false_or,← a1];unfold dk.ask;rw [if_neg ad];split
      · split<;>rfl
      · split<;>rfl
theorem IM:∀ (k:Nat) (n:Int) (l:List Int),AT k n l=lU k n l
 | 0,_,_=>rfl
 | k+1,n,l=>by rw [AT,lU,IM k]
theorem O5:∀ (l:List cf) (k:dk) (c:Nat),(l.foldl dk.ask k).fP.testBit c=(k.fP.testBit c||l.any fun x=>decide (x.1.op=2)&&(!x.2&&decide (x.1.cls.toNat=c)))
  | [],k,c=>by simp
  | x::r,k,c=>by
    rw [foldl_cons,O5 r,any_cons,← Bool.or_assoc];congr 1;unfold dk.ask;by_cases ad:x.1.op=2
    · rw [if_pos ad,decide_eq_true ad,Bool.true_and]
      cases x.2 with
      | true=>simp
      | false=>simp [testBit_or,testBit_two_pow]
    · rw [if_neg ad,decide_eq_false ad,Bool.false_and,Bool.or_false]
      repeat' split
      all_goals rfl
theorem O6:∀ (l:List cf) (k:dk) (c:Nat),(l.foldl dk.ask k).no.testBit c=(k.no.testBit c||l.any fun x=>decide (x.1.op=2)&&(x.2&&decide (x.1.cls.toNat=c)))
  | [],k,c=>by simp
  | x::r,k,c=>by
    rw [foldl_cons,O6 r,any_cons,← Bool.or_assoc];congr 1;unfold dk.ask;by_cases ad:x.1.op=2
    · rw [if_pos ad,decide_eq_true ad,Bool.true_and]
      cases x.2 with
      | false=>simp
      | true=>simp [testBit_or,testBit_two_pow]
    · rw [if_neg ad,decide_eq_false ad,Bool.false_and,Bool.or_false]
      repeat' split
      all_goals rfl
theorem O7:∀ (l:List cf) (k:dk),(l.foldl dk.ask k).whole=(k.whole||l.any fun x => !decide (x.1.op=2) && !x.2)
  | [],k=>by simp
  | x::r,k=>by
    rw [foldl_cons,O7 r,any_cons,← Bool.or_assoc];congr 1;unfold dk.ask;by_cases ad:x.1.op=2
    · rw [if_pos ad,decide_eq_true ad]
      split<;>simp
    · rw [if_neg ad,decide_eq_false ad]
      cases ab:x.2<;>by_cases al:x.1.op=3<;>simp [al]
theorem O8 {p q b:cf→Bool}:∀ (l:List cf),(∀ x∈l,b x=(p x||q x))→l.any b = !(l.all (fun x => !p x)&&l.all (fun x => !q x))
  | [],_=>rfl
  | x::r,h=>by
    rw [any_cons,all_cons,all_cons,O8 r (fun y ay=>h y (mem_cons_of_mem _ ay)),h x mem_cons_self];cases p x<;>cases q x<;>simp
section
variable {w:bx} (hw:gw w) {arg:Int} {path:List Int} (aD:path.length≤2) {L:List cf} (bN:tg w L)
include aD bN
theorem Eo:((et L) (bs arg path)).core=(fo L arg path).foldl dk.ask iT:=O0 aD L wC bN
theorem u2 (c:Nat):((et L) (bs arg path)).fP.testBit c=(fo L arg path).any fun x=>decide (x.1.op=2)&&(!x.2&&decide (x.1.cls.toNat=c)):=by
 have h:((et L) (bs arg path)).fP=((fo L arg path).foldl dk.ask iT).fP:=by rw [← Eo aD bN];rfl
 rw [h,O5];simp [iT]
theorem Ep (c:Nat):((et L) (bs arg path)).no.testBit c=(fo L arg path).any fun x=>decide (x.1.op=2)&&(x.2&&decide (x.1.cls.toNat=c)):=by
 have h:((et L) (bs arg path)).no=((fo L arg path).foldl dk.ask iT).no:=by rw [← Eo aD bN];rfl
 rw [h,O6];simp [iT]
theorem O9:((et L) (bs arg path)).whole=(fo L arg path).any fun x => !decide (x.1.op=2) && !x.2:=by
 have h:((et L) (bs arg path)).whole=((fo L arg path).foldl dk.ask iT).whole:=by rw [← Eo aD bN];rfl
 rw [h,O7];simp [iT]
omit aD in
theorem se {x:cf} (ab:x∈fo L arg path) (ad:x.1.op=2):0≤x.1.cls∧x.1.cls<3+(w.ps.length:Int):=by
 unfold fo at ab;obtain ⟨az,aB⟩:=bN x (mem_filter.1 ab).1;simp only [hX,aB,if_true,if_pos ad,and_eq_true,decide_eq_true_eq] at az;have:=az.2.2.2.2.2.2.2;omega
theorem O' {c:Nat} (h:((et L) (bs arg path)).fP.testBit c=true):c<3+w.ps.length:=by
 rw [u2 aD bN] at h;obtain ⟨x,ab,h⟩:=any_eq_true.1 h;simp only [and_eq_true,decide_eq_true_eq] at h;have:=se bN ab h.1;omega
include hw
theorem Pa {c:Nat} (aC:c<3):uK (et L) arg path c=((fo L arg path).all (fun x => !(decide (x.1.op=2)&&(!x.2 && !(decide (x.1.cls=0)||decide (x.1.cls=c)))))&&((fo L arg path).all (fun x => !(decide (x.1.op=2)&&(x.2&&(decide (x.1.cls=0)||decide (x.1.cls=c)))))&&th w.owner.length L arg path)):=by
 have s9:=hw.kt;unfold uK;rw [Z8 aD bN];have aq:∀ i,(1|||2^c:Nat).testBit i=(decide (i=0)||decide (i=c)):=fun i=>by
  rw [testBit_or,zY,testBit_two_pow];congr 1;rw [Bool.eq_iff_iff,decide_eq_true_eq,decide_eq_true_eq];omega
 congr 1
 ·rw [Bool.eq_iff_iff,decide_eq_true_eq,all_eq_true]
  constructor
  ·intro h x ab
   cases cX:(decide (x.1.op=2)&&(!x.2 && !(decide (x.1.cls=0)||decide (x.1.cls=c)))) with
   | false=>rfl
   | true=>
    exfalso;simp only [and_eq_true,decide_eq_true_eq,not_eq_true',or_eq_false_iff,decide_eq_false_iff_not] at cX;have cv:=se bN ab cX.1;have hm:((et L) (bs arg path)).fP.testBit x.1.cls.toNat=true:=by
     rw [u2 aD bN,any_eq_true];exact ⟨x,ab,by simp [cX.1,cX.2.1]⟩
    have:=congrArg (fun n=>n.testBit x.1.cls.toNat) h;simp only [kO,testBit_and,testBit_xor,hm,aq,zero_testBit,Bool.true_and] at this;rw [show (18446744073709551615:Nat)=2^64-1 by decide,Nat.testBit_two_pow_sub_one,decide_eq_true (by omega:x.1.cls.toNat<64),decide_eq_false ag,decide_eq_false ag] at this;cases this
  ·intro h
   apply Nat.eq_of_testBit_eq;intro i;rw [zero_testBit];cases hm:((et L) (bs arg path)).fP.testBit i with
   | false=>unfold kO;rw [testBit_and,hm,Bool.false_and]
   | true=>
    have aQ:=O' aD bN hm;rw [u2 aD bN,any_eq_true] at hm;obtain ⟨x,ab,hm⟩:=hm;simp only [and_eq_true,decide_eq_true_eq,not_eq_true'] at hm;have:=h x ab;have cv:=se bN ab hm.1;simp only [hm.1,hm.2.1,decide_true,Bool.not_false,Bool.true_and,Bool.not_not,or_eq_true,decide_eq_true_eq] at this;unfold kO;rw [testBit_and,testBit_xor,aq,show (18446744073709551615:Nat)=2^64-1 by decide,Nat.testBit_two_pow_sub_one,decide_eq_true (by omega:i<64)];rcases (by omega:i=0∨i=c) with rfl|rfl
    ·simp
    ·simp
 congr 1;rw [Bool.eq_iff_iff,decide_eq_true_eq,all_eq_true];constructor
 ·intro h x ab
  cases cX:(decide (x.1.op=2)&&(x.2&&(decide (x.1.cls=0)||decide (x.1.cls=c)))) with
  | false=>rfl
  | true=>
   exfalso;simp only [and_eq_true,decide_eq_true_eq,or_eq_true] at cX;have cv:=se bN ab cX.1;have hm:((et L) (bs arg path)).no.testBit x.1.cls.toNat=true:=by
    rw [Ep aD bN,any_eq_true];exact ⟨x,ab,by simp [cX.1,cX.2.1]⟩
   have:=congrArg (fun n=>n.testBit x.1.cls.toNat) h;simp only [testBit_and,hm,aq,zero_testBit,Bool.true_and,or_eq_false_iff,decide_eq_false_iff_not] at this;omega
 ·intro h
  apply Nat.eq_of_testBit_eq;intro i;rw [zero_testBit,testBit_and,aq];cases hm:((et L) (bs arg path)).no.testBit i with
  | false=>rfl
  | true=>
   rw [Ep aD bN,any_eq_true] at hm;obtain ⟨x,ab,hm⟩:=hm;simp only [and_eq_true,decide_eq_true_eq] at hm;have:=h x ab;have cv:=se bN ab hm.1;simp only [hm.1,hm.2.1,decide_true,Bool.true_and,not_eq_true',or_eq_false_iff,decide_eq_false_iff_not] at this;simp only [Bool.true_and,or_eq_false_iff,decide_eq_false_iff_not];omega
theorem Z9:uG w.owner.length L arg path=wU (et L) arg path:=by
 have aQ:=O4 (fo L arg path) iT;have aC:=Eo (arg:=arg) aD bN;have U:((et L) (bs arg path)).low=((fo L arg path).foldl dk.ask iT).low:=by rw [← aC];rfl
 have ad:((et L) (bs arg path)).high=((fo L arg path).foldl dk.ask iT).high:=by rw [← aC];rfl
 have al:((et L) (bs arg path)).eX=((fo L arg path).foldl dk.ask iT).eX:=by rw [← aC];rfl
 unfold uG wU wT;rw [Pa hw aD bN ag,U,ad,al];rw [show ((-1000000000:Int),(1000000000:Int),([]:List Int))=(iT.low,iT.high,iT.eX) from rfl,aQ];have aq:(fo L arg path).any u1 = !((fo L arg path).all (fun x => !(decide (x.1.op=2)&&(!x.2 && !(decide (x.1.cls=0)||decide (x.1.cls=(1:Nat))))))&&(fo L arg path).all (fun x => !(decide (x.1.op=2)&&(x.2&&(decide (x.1.cls=0)||decide (x.1.cls=(1:Nat))))))):=by
  have e:∀ x∈fo L arg path,u1 x=(decide (x.1.op=2)&&(!x.2 && !(decide (x.1.cls=0)||decide (x.1.cls=(1:Nat))))||decide (x.1.op=2)&&(x.2&&(decide (x.1.cls=0)||decide (x.1.cls=(1:Nat))))):=by
   intro x ab;unfold u1;by_cases ad:x.1.op=2
   ·have:=se bN ab ad
    rw [decide_eq_true ad];have cg:decide (x.1.cls>1) = !(decide (x.1.cls=0)||decide (x.1.cls=(1:Nat))):=by
     rw [Bool.eq_iff_iff];simp;omega
    rw [cg];cases x.2<;>simp
   ·rw [decide_eq_false ad];rfl
  exact O8 _ e
 rw [aq];cases (fo L arg path).all (fun x => !(decide (x.1.op=2)&&(!x.2 && !(decide (x.1.cls=0)||decide (x.1.cls=(1:Nat)))))) with
 | false=>simp
 | true=>
  cases (fo L arg path).all (fun x => !(decide (x.1.op=2)&&(x.2&&(decide (x.1.cls=0)||decide (x.1.cls=(1:Nat)))))) with
  | false=>simp
  | true=>simp only [Bool.and_self,Bool.not_true,false_eq_true,if_false,Bool.true_and,IM]
theorem Z':wM w.owner.length L arg path=wS (et L) arg path:=by
 unfold wM wS;rw [Pa hw aD bN ag,O9 aD bN,← Bool.and_assoc,← Bool.and_assoc];congr 1;rw [Bool.eq_iff_iff];simp only [and_eq_true,all_eq_true,not_eq_true',any_eq_false];have e:∀ x∈fo L arg path,(qT x=false↔(¬(decide (x.1.op=2)=false∧x.2=false)∧(decide (x.1.op=2)&&(!x.2 && !(decide (x.1.cls=0)||decide (x.1.cls=(2:Nat)))))=false)∧(decide (x.1.op=2)&&(x.2&&(decide (x.1.cls=0)||decide (x.1.cls=(2:Nat)))))=false):=by
  intro x ab;unfold qT;by_cases ad:x.1.op=2<;>cases x.2<;>simp [ad]<;>omega
 constructor
 ·intro h
  exact ⟨⟨fun x ab=>((e x ab).1 (h x ab)).1.1,fun x ab=>((e x ab).1 (h x ab)).1.2⟩,fun x ab=>((e x ab).1 (h x ab)).2⟩
 ·rintro ⟨⟨U,ad⟩,al⟩ x ab
  exact (e x ab).2 ⟨⟨U x ab,ad x ab⟩,al x ab⟩
end
open Go.cU Go.Proofs.YtnafpeohfbglmaaGreat
theorem IN {l k9:List Int} {f g:Int→Bool} (h:∀ s,s∈l↔s∈k9) (a6:∀ s∈l,f s=g s):l.any f=k9.any g:=by
 rw [Bool.eq_iff_iff,any_eq_true,any_eq_true];constructor
 ·rintro ⟨s,ar,e⟩;exact ⟨s,(h s).1 ar,by rw [← a6 s ar];exact e⟩
 ·rintro ⟨s,ar,e⟩;exact ⟨s,(h s).2 ar,by rw [a6 s ((h s).2 ar)];exact e⟩
def nz (x:cf):Bool := !decide (x.1.op=2)||(decide (x.1.cls=1)||decide (x.1.cls=2))
theorem IP (a:Nat→Bool) (c k:Nat) (b:Bool):((if k=c then true else a k)||b)=(a k||(decide (c=k)||b)):=by
 by_cases h:k=c
 ·rw [if_pos h,decide_eq_true h.symm];simp
 ·rw [if_neg h,decide_eq_false (Ne.symm h)];simp
theorem Er:∀ (l:List cf) (a:(Nat→Bool)×(Nat→Bool)),pT l a=if l.any (fun x=>nz x && !x.2) then none else
    some (fun k=>a.1 k||l.any (fun x => !nz x&&(!x.2&&decide (x.1.cls.toNat=k))),fun k=>a.2 k||l.any (fun x => !nz x&&(x.2&&decide (x.1.cls.toNat=k))))
  | [],a=>by rw [pT];simp
  | x::r,a=>by
    rw [pT,any_cons];simp only [any_cons];by_cases h:x.1.op≠2∨x.1.cls=1∨x.1.cls=2
    · have e:nz x=true:=by unfold nz;simpa [or_assoc] using h
      rw [if_pos h,e];cases x.2 with
      | true=>rw [if_pos C,Er r a];simp only [Bool.not_true,Bool.and_false,Bool.false_or,Bool.false_and]
      | false=>simp
    · have e:nz x=false:=by
        rw [eq_false_iff];intro e;apply h;unfold nz at e;simpa [or_assoc] using e
      rw [if_neg h,e];cases x.2 with
      | true=>
        rw [if_pos C,Er r _];simp only [IP,Bool.not_true,Bool.not_false,Bool.and_false,Bool.false_or,Bool.false_and,Bool.true_and]
      | false=>
        rw [if_neg a',Er r _];simp only [IP,Bool.not_true,Bool.not_false,Bool.and_false,Bool.false_or,Bool.false_and,Bool.true_and]
theorem Pb (w:bx) (L:List cf) (cn:List Int→Bool) (arg:Int) (path:List Int):∀ (l:List Int) (a:(Nat→Bool)×(Nat→Bool)),rT w L cn arg path l a=if l.any (fun s => !lp L arg (path++[s]) && !cn (path++[s])) then none else
    some (fun k=>a.1 k||l.any (fun s => !lp L arg (path++[s])&&decide (jJ w s=k)),fun k=>a.2 k||l.any (fun s => !cn (path++[s])&&decide (jJ w s=k)))
  | [],a=>by rw [rT];simp
  | s::r,a=>by
    rw [rT,any_cons];simp only [any_cons];cases aC:(!lp L arg (path++[s]) && !cn (path++[s])) with
    | true=>simp
    | false=>
      rw [if_neg a',Bool.false_or,Pb w L cn arg path r _];cases lp L arg (path++[s])<;>cases cn (path++[s])<;>simp only [IP,jJ,Bool.not_true,Bool.not_false,Bool.and_false,Bool.false_or,Bool.false_and,Bool.true_and,if_true,if_false,false_eq_true]<;>rfl
theorem IQ {w:bx} {σ:dT} {cn:List Int→Bool} {arg:Int} {path:List Int}:∀ {l:List Int} {m n:Nat},l.any (fun s=>(σ (bs arg (path++[s]))).gz && !cn (path++[s]))=true→oZ w σ cn arg path l m n=none
  | s::r,m,n,h=>by
    rw [oZ];rw [any_cons] at h;cases aC:((σ (bs arg (path++[s]))).gz && !cn (path++[s])) with
    | true=>rfl
    | false=>
      rw [aC,Bool.false_or] at h;rw [if_neg a'];split
      · exact IQ h
      · split<;>exact IQ h
theorem Es {w:bx} {σ:dT} {cn:List Int→Bool} {arg:Int} {path:List Int}:∀ {l:List Int} {m n:Nat},l.any (fun s=>(σ (bs arg (path++[s]))).gz && !cn (path++[s]))=false →
    ∃ jq n',oZ w σ cn arg path l m n=some (jq,n')∧(∀ k,jq.testBit k=(m.testBit k||l.any fun s=>(σ (bs arg (path++[s]))).gz&&decide (jJ w s=k)))∧∀ k,n'.testBit k=(n.testBit k||l.any fun s => !cn (path++[s])&&decide (jJ w s=k))
  | [],m,n,_=>⟨m,n,rfl,fun k=>by simp,fun k=>by simp⟩
  | s::r,m,n,h=>by
    rw [any_cons,or_eq_false_iff] at h;obtain ⟨U,ad⟩:=h;rw [oZ,if_neg (by rw [U];simp)];simp only [any_cons];by_cases az:(σ (bs arg (path++[s]))).gz=true
    · rw [az,Bool.true_and,Bool.not_eq_false'] at U
      obtain ⟨jq,n',e,hm,fX⟩:=Es (w:=w) (σ:=σ) (cn:=cn) (arg:=arg) (path:=path) (l:=r) (m:=m|||2^jJ w s) (n:=n) ad;refine ⟨jq,n',by rw [if_pos az];exact e,fun k=>?_,fun k=>?_⟩
      · rw [hm,az,testBit_or,testBit_two_pow,Bool.true_and,Bool.or_assoc]
      · rw [fX,U];simp
    · rw [if_neg az]
      have az:(σ (bs arg (path++[s]))).gz=false:=by simpa using az
      by_cases aC:cn (path++[s])=true
      · obtain ⟨jq,n',e,hm,fX⟩:=Es (w:=w) (σ:=σ) (cn:=cn) (arg:=arg) (path:=path) (l:=r) (m:=m) (n:=n) ad
        refine ⟨jq,n',by rw [if_pos aC];exact e,fun k=>?_,fun k=>?_⟩
        · rw [hm,az];simp
        · rw [fX,aC];simp
      · obtain ⟨jq,n',e,hm,fX⟩:=Es (w:=w) (σ:=σ) (cn:=cn) (arg:=arg) (path:=path) (l:=r) (m:=m) (n:=n|||2^jJ w s) ad
        have mM:cn (path++[s])=false:=by simpa using aC
        refine ⟨jq,n',by rw [if_neg aC];exact e,fun k=>?_,fun k=>?_⟩
        · rw [hm,az];simp
        · rw [fX,mM,testBit_or,testBit_two_pow,Bool.not_false,Bool.true_and,Bool.or_assoc]
theorem Pc {w:bx} (hw:gw w) (m:Nat) (k:Nat):∀ i,i≤w.ps.length→(((range i).foldl (ti w) m).testBit k=true↔m.testBit k=true∨∃ j,j<i∧m.testBit (3+j)=true∧((eN w.ps).getD (3+j) 0).testBit k=true)
  | 0,_=>by simp
  | i+1,aQ=>by
    have a1:=fun k=>Pc hw m k i ag
    rw [List.range_succ,List.foldl_append,foldl_cons,foldl_nil];have aq:((range i).foldl (ti w) m).testBit (3+i)=m.testBit (3+i):=by
      rw [Bool.eq_iff_iff,a1 (3+i)];constructor
      · rintro (h|⟨j,aK,-,h⟩)
        · exact h
        · have:=xU hw (3+j+1) (3+j) (3+i) ag ag h;omega
      · exact .inl
    have e:∀ M,ti w M i=if M.testBit (3+i) then M|||(eN w.ps).getD (3+i) 0 else M:=fun M=>rfl
    rw [e,aq];by_cases al:m.testBit (3+i)=true
    · rw [if_pos al,testBit_or,or_eq_true,a1]
      constructor
      · rintro ((h|⟨j,aK,h,eT⟩)|h)
        · exact .inl h
        · exact .inr ⟨j,by omega,h,eT⟩
        · exact .inr ⟨i,by omega,al,h⟩
      · rintro (h|⟨j,aK,h,eT⟩)
        · exact .inl (.inl h)
        · rcases Nat.lt_succ_iff_lt_or_eq.1 aK with aK|rfl
          · exact .inl (.inr ⟨j,aK,h,eT⟩)
          · exact .inr eT
    · rw [if_neg al,a1]
      constructor
      · rintro (h|⟨j,aK,h,eT⟩)
        · exact .inl h
        · exact .inr ⟨j,by omega,h,eT⟩
      · rintro (h|⟨j,aK,h,eT⟩)
        · exact .inl h
        · rcases Nat.lt_succ_iff_lt_or_eq.1 aK with aK|rfl
          · exact .inr ⟨j,aK,h,eT⟩
          · exact absurd h al
theorem aaa {w:bx} (hw:gw w) {f a2:Nat→Bool} {m n:Nat} (a6:∀ k,1≤k→f k=m.testBit k) (aab:f 0=false) (xf:m.testBit 1=false∧m.testBit 2=false) (hm:∀ k,m.testBit k=true→k<3+w.ps.length) (a7:∀ k,3≤k→a2 k=n.testBit k) :
  ((range (3+w.ps.length)).all fun k => !(hj w.ps w.ps.length f k&&a2 k))=decide (kO (qV w m) 1 &&& n=0):=by
 have s9:=hw.kt;have rB:∀ k,((qV w m).testBit k=true↔m.testBit k=true∨∃ j,j<w.ps.length∧m.testBit (3+j)=true∧((eN w.ps).getD (3+j) 0).testBit k=true):=fun k=>Pc hw m k w.ps.length (Nat.le_refl _)
 have cv:∀ k,3≤k→hj w.ps w.ps.length f k=(qV w m).testBit k:=fun k aE=>by
  rw [Bool.eq_iff_iff,FW hw _ _ _ aE (Nat.le_refl _),rB,a6 k ag];constructor <;>
  ·rintro (h|⟨j,aK,h,eT⟩)
   ·exact .inl h
   ·exact .inr ⟨j,aK,by first|rw [← a6 _ ag];exact h|rw [a6 _ ag];exact h,eT⟩
 have aac:∀ k,1≤k→k<3→(qV w m).testBit k=false:=fun k U al=>by
  rw [eq_false_iff];intro h;rcases (rB k).1 h with h|⟨j,aK,-,h⟩
  ·rcases (by omega:k=1∨k=2) with rfl|rfl
   ·rw [xf.1] at h;cases h
   ·rw [xf.2] at h;cases h
  ·have:=xU hw (3+j+1) (3+j) k ag ag h
   omega
 rw [Bool.eq_iff_iff,all_eq_true,decide_eq_true_eq];constructor
 ·intro h
  apply Nat.eq_of_testBit_eq;intro i;unfold kO;rw [zero_testBit,testBit_and,testBit_and,testBit_xor,zY];by_cases bt:i=0
  ·subst bt
   rw [show (18446744073709551615:Nat).testBit 0=true from rfl];simp
  by_cases al:i<3
  ·rw [aac i ag al];rfl
  ·cases hu:(qV w m).testBit i with
   | false=>rfl
   | true=>
    have aQ:i<3+w.ps.length:=by
     rcases (rB i).1 hu with h|⟨j,aK,-,h⟩
     ·exact hm i h
     ·have:=xU hw (3+j+1) (3+j) i ag ag h
      omega
    have:=h i (mem_range.2 aQ);rw [cv i ag,hu,Bool.true_and,a7 i ag,not_eq_true'] at this;rw [this,Bool.and_false]
 ·intro h k aE
  have aE:=mem_range.1 aE;by_cases al:k<3
  ·rw [FV hw _ _ _ al (Nat.le_refl _)]
   rcases (by omega:k=0∨k=1∨k=2) with rfl|rfl|rfl
   ·rw [aab];rfl
   ·rw [a6 1 ag,xf.1];rfl
   ·rw [a6 2 ag,xf.2];rfl
  ·rw [cv k ag,a7 k ag]
   have:=congrArg (fun n=>n.testBit k) h;unfold kO at this;simp only [zero_testBit,testBit_and,testBit_xor,zY] at this;rw [show (18446744073709551615:Nat)=2^64-1 by decide,Nat.testBit_two_pow_sub_one,decide_eq_true (by omega:k<64),decide_eq_false (by omega:¬ k=0)] at this;cases hu:(qV w m).testBit k with
   | false=>rfl
   | true=>rw [hu] at this;simpa using this
section
variable {w:bx} (hw:gw w) {arg:Int} {path:List Int} (aD:path.length≤2) {L:List cf} (bN:tg w L)
include aD bN hw
omit aD in
theorem IS {s:Int} (h:mT L arg path s=true):3≤jJ w s∧jJ w s<3+w.ps.length:=by
 have U:=xe bN h;have au:s.toNat<w.owner.length:=by omega
 have:=hw.own _ (List.getElem_mem au);unfold jJ;rw [getD_eq_getElem?_getD,getElem?_eq_getElem au,getD_some];omega
theorem aad {er yW:List Int→Bool} (aC:∀ s,mT L arg path s=true→er (path++[s])=yW (path++[s])):wN w L er arg path=(wV w (et L) yW arg path).2:=by
 have fW:∀ s,s∈jI w.owner.length L arg path↔s∈((et L) (bs arg path)).bo:=fun s=>En aD bN
 have tz:∀ s∈jI w.owner.length L arg path,mT L arg path s=true:=fun s ar=>(BI aD bN s).1 ((fW s).1 ar)
 have eF:∀ s∈jI w.owner.length L arg path,(!lp L arg (path++[s]))=((et L) (bs arg (path++[s]))).gz:=fun s ar=>(O3 (xe bN (tz s ar)).2.2 bN).symm
 unfold wN wV;rw [Er,O9 aD bN,u2 aD bN,u2 aD bN,Ep aD bN];by_cases aq:(fo L arg path).any (fun x=>nz x && !x.2)=true
 ·rw [if_pos aq,if_pos]
  obtain ⟨x,ab,h⟩:=any_eq_true.1 aq;simp only [or_eq_true,any_eq_true];unfold nz at h;simp only [and_eq_true,or_eq_true,not_eq_true',decide_eq_true_eq,decide_eq_false_iff_not] at h;obtain ⟨U,ad⟩:=h;rcases U with U|U|U
  ·exact .inl ⟨x,ab,by simp [U,ad]⟩
  ·by_cases al:x.1.op=2
   ·exact .inr (.inl ⟨x,ab,by simp [U,ad,al]⟩)
   ·exact .inl ⟨x,ab,by simp [al,ad]⟩
  ·by_cases al:x.1.op=2
   ·exact .inr (.inr (.inl ⟨x,ab,by simp [U,ad,al]⟩))
   ·exact .inl ⟨x,ab,by simp [al,ad]⟩
 rw [if_neg aq];have dI:∀ x∈fo L arg path,x.2=false→x.1.op=2∧x.1.cls≠1∧x.1.cls≠2:=by
  intro x ab ad;have:=any_eq_false.1 (eq_false_iff.2 aq) x ab;unfold nz at this;rw [ad] at this;simpa using this
 have cg:(fo L arg path).any (fun x => !decide (x.1.op=2) && !x.2)=false:=by
  rw [any_eq_false];intro x ab h;simp only [and_eq_true,not_eq_true',decide_eq_false_iff_not] at h;exact h.1 (dI x ab h.2).1
 have bY:∀ c:Nat,c=1∨c=2→(fo L arg path).any (fun x=>decide (x.1.op=2)&&(!x.2&&decide (x.1.cls.toNat=c)))=false:=by
  intro c wI;rw [any_eq_false];intro x ab h;simp only [and_eq_true,not_eq_true',decide_eq_true_eq] at h;have:=dI x ab h.2.1;have:=se bN ab h.1;omega
 rw [cg,bY 1 (.inl C),bY 2 (.inr C),Bool.false_or,Bool.false_or,Bool.false_or];simp only;rw [Pb];have o6:(jI w.owner.length L arg path).any (fun s => !lp L arg (path++[s]) && !er (path++[s]))=((et L) (bs arg path)).bo.any (fun s=>((et L) (bs arg (path++[s]))).gz && !yW (path++[s])):=
  IN fW fun s ar=>by rw [eF s ar,aC s (tz s ar)]
 rw [o6];have aae:(fo L arg path).any (fun x => !nz x&&(x.2&&decide (x.1.cls.toNat=0)))=(fo L arg path).any (fun x=>decide (x.1.op=2)&&(x.2&&decide (x.1.cls.toNat=0))):=by
  rw [Bool.eq_iff_iff,any_eq_true,any_eq_true];constructor <;>
  ·rintro ⟨x,ab,h⟩
   refine ⟨x,ab,?_⟩;unfold nz at *;by_cases ad:x.1.op=2
   ·simp only [ad,decide_true,Bool.true_and,and_eq_true,decide_eq_true_eq,Bool.not_true,Bool.false_or,not_eq_true',or_eq_false_iff,decide_eq_false_iff_not] at h ⊢
    have:=se bN ab ad
    first|exact h.2|(obtain ⟨bd,bD⟩:=h;exact ⟨⟨by omega,by omega⟩,bd,bD⟩)
   ·simp [ad] at h
 have aaf:(jI w.owner.length L arg path).any (fun s => !er (path++[s])&&decide (jJ w s=0))=false:=by
  rw [any_eq_false];intro s ar h;have:=IS hw bN (tz s ar);simp only [and_eq_true,decide_eq_true_eq] at h;omega
 by_cases a7:((et L) (bs arg path)).bo.any (fun s=>((et L) (bs arg (path++[s]))).gz && !yW (path++[s]))=true
 ·rw [if_pos a7,IQ a7]
  have:∀ z:Bool,false=(if z=true then (0,false) else ((0,false):Nat×Bool)).2:=fun z=>by cases z<;>rfl
  exact this _
 rw [if_neg a7];obtain ⟨jq,n',e,hm,az⟩:=Es (w:=w) (σ:=et L) (cn:=yW) (arg:=arg) (path:=path) (l:=((et L) (bs arg path)).bo) (m:=((et L) (bs arg path)).fP) (n:=((et L) (bs arg path)).no) wE;rw [e];simp only [Bool.false_or,aaf,aae,Bool.or_false];cases bO:(fo L arg path).any (fun x=>decide (x.1.op=2)&&(x.2&&decide (x.1.cls.toNat=0))) with
 | true=>simp
 | false=>
  simp only [Bool.not_false,Bool.true_and,false_eq_true,if_false];have kN:∀ k,(jI w.owner.length L arg path).any (fun s => !lp L arg (path++[s])&&decide (jJ w s=k))=((et L) (bs arg path)).bo.any (fun s=>((et L) (bs arg (path++[s]))).gz&&decide (jJ w s=k)):=fun k=>IN fW fun s ar=>by rw [eF s ar]
  have kK:∀ k,(jI w.owner.length L arg path).any (fun s => !er (path++[s])&&decide (jJ w s=k))=((et L) (bs arg path)).bo.any (fun s => !yW (path++[s])&&decide (jJ w s=k)):=fun k=>IN fW fun s ar=>by rw [aC s (tz s ar)]
  have Pd:∀ k,k<3→((et L) (bs arg path)).bo.any (fun s=>((et L) (bs arg (path++[s]))).gz&&decide (jJ w s=k))=false:=fun k aE=>by
   rw [any_eq_false];intro s ar h;have:=IS hw bN (tz s ((fW s).2 ar));simp only [and_eq_true,decide_eq_true_eq] at h;omega
  have ab:∀ k,1≤k→¬ (k=1∨k=2)→∀ b:cf→Bool,(fo L arg path).any (fun x => !nz x&&(b x&&decide (x.1.cls.toNat=k)))=(fo L arg path).any (fun x=>decide (x.1.op=2)&&(b x&&decide (x.1.cls.toNat=k))):=fun k U ad b=>by
   rw [Bool.eq_iff_iff,any_eq_true,any_eq_true];constructor <;>
   ·rintro ⟨x,ab,h⟩
    refine ⟨x,ab,?_⟩;unfold nz at *;by_cases al:x.1.op=2
    ·simp only [al,decide_true,Bool.true_and,and_eq_true,decide_eq_true_eq,Bool.not_true,Bool.false_or,not_eq_true',or_eq_false_iff,decide_eq_false_iff_not] at h ⊢
     have:=se bN ab al
     first|exact h.2|(obtain ⟨bd,bD⟩:=h;exact ⟨⟨by omega,by omega⟩,bd,bD⟩)
    ·simp [al] at h
  refine aaa hw ?_ (if_pos C) ⟨?_,?_⟩ ?_ ?_
  ·intro k aE
   rw [if_neg ag,hm,kN,u2 aD bN];by_cases xf:k=1∨k=2
   ·rw [bY k xf]
    congr 1;rw [any_eq_false];intro x ab h;unfold nz at h;simp only [and_eq_true,not_eq_true',or_eq_false_iff,decide_eq_false_iff_not,decide_eq_true_eq,Bool.not_eq_false'] at h;have:=se bN ab h.1.1;omega
   ·rw [ab k aE xf (fun x => !x.2)]
  ·rw [hm,u2 aD bN,bY 1 (.inl C),Pd 1 ag];rfl
  ·rw [hm,u2 aD bN,bY 2 (.inr C),Pd 2 ag];rfl
  ·intro k aE
   rw [hm,or_eq_true] at aE;rcases aE with aE|aE
   ·exact O' aD bN aE
   ·obtain ⟨s,ar,aE⟩:=any_eq_true.1 aE
    have:=IS hw bN (tz s ((fW s).2 ar));simp only [and_eq_true,decide_eq_true_eq] at aE;omega
  ·intro k aE
   rw [az,kK,Ep aD bN,ab k ag ag (fun x=>x.2)]
omit aD in
theorem Pe:∀ (k:Nat) (path:List Int),path.length≤2→oY w L arg k path=rW w (et L) arg k path
  | 0,_,_=>rfl
  | k+1,path,aD=>by
    rw [oY,rW,Z9 hw aD bN,Z' hw aD bN,aad hw aD bN (fun s ar=>Pe k _ (xe bN ar).2.2)]
omit aD in
theorem aag:Du w L=mU w (et L):=by
 unfold Du mU;congr 1;funext a;exact Pe hw bN 3 [] a'
end
end Go.eb
namespace Go.Proofs.YtnafpeohfbglmaaGreat
open Go.cU Go.eb
theorem aah (w:bx) (hw:w.owner.length≤40) (L:List cf) (arg:Int) (path:List Int) (bN:ny w L) (aD:path.length≤2):aR Tryz.prog 177 [kB w L arg path] (.bool (wM w.owner.length L arg path)):=by
 have aq:=bA;have U:=II w L arg path bN ag;have ad:=OV w hw L arg path bN aD;have eL:=bN.on arg path;have aU:wM w.owner.length L arg path=((fo L arg path).all (fun x => !qT x)&&th w.owner.length L arg path):=rfl;refine aR.bh ai Tryz.func177 C C fun s I=>?_
 generalize fo L arg path=M at U eL aU;have xc:=eL.1;rw [aU];unfold kB n5 c9 bf at *;refine bW ?_;refine ae.b4 [1,9,10] C I (σ:=Nat) (fun j=>[(11,.int .i64 (j:Int))]) (fun _=>[]) (fun j=>j≤M.length∧(M.all fun x => !qT x)=(M.drop j).all fun x => !qT x) (fun j=>M.length-j) 0 ⟨zero_le _,rfl⟩ (cq C) aX ?_;rintro j ⟨aK,an⟩ I
 try simp only at aK an I ⊢
 refine b7 ?_;refine ae.cond C (fun au=>?_) (fun aV=>?_);rotate_left
 ·have aV:j=M.length:=by simp at aV;omega
  rw [ep ag,all_nil] at an;rw [an,Bool.true_and];refine c1 ?_;exact bl I
 have au:j<M.length:=by simpa using au
 obtain ⟨x,ab,bJ⟩:=b1 (f:=fun x:cf=>(ij x).bK) au;have fc:=eL.at (mem_of_getElem? ab);have dA:=yi x fc.1;have bJ:(M.map fun x=>(ij x).bK)[j]? = some (ij x).bK:=bJ;rw [ak.bX] at bJ;simp only [ak.bX] at dA;rw [drop_cons ab,all_cons] at an;have iY:qT x=((decide (x.1.op=2)&&(decide (x.1.cls=0)||decide (x.1.cls=2)))==x.2):=rfl;unfold ak.cells at bJ dA;cases az:x.2 with
 | true=>
  rw [az] at dA iY
  repeat' (first|(with_reducible first|apply ae.seq|apply b5|apply fF|apply fz|apply hg|apply ae.ret|apply ae.skip|apply ae.block)|refine c0 C ?_|refine ae.cH ?_|refine aa.nil ?_|refine ae.ft C ?_|refine ae.gP C ?_|refine cE C ?_|refine aa.skip C C C ?_|refine aa.idx ai _ C C C C C C C C C C C cu C ?_|refine aa.eB ai I C C C C C C zJ b6 ?_|refine aa.cT ai I C C C C C C C C C zJ b6 (fun I=>?_)|refine aa.dY ai I C C C C C C C (fun cJ I=>?_)|refine aa.eg C C C C C cu ?_|(fail_if_success refine aa.same true C ?_);(fail_if_success refine aa.same false C ?_);refine aa.gV C C (fun h=>?_) (fun h=>?_)|refine ae.cond C (fun h=>?_) (fun h=>?_))
  all_goals first
   | exact Fin.cx I C (aS.of_eq (congrArg af.bool (by rw [an,show qT x=true by clear I an U ad;grind];rfl)))
   | exact bn.mk (j+1) I ⟨au,by rw [an,show qT x=false by clear I an U ad;grind];rfl⟩ ca aX p1
 | false=>
  rw [az] at dA iY
  repeat' (first|(with_reducible first|apply ae.seq|apply b5|apply fF|apply fz|apply hg|apply ae.ret|apply ae.skip|apply ae.block)|refine c0 C ?_|refine ae.cH ?_|refine aa.nil ?_|refine ae.ft C ?_|refine ae.gP C ?_|refine cE C ?_|refine aa.skip C C C ?_|refine aa.idx ai _ C C C C C C C C C C C cu C ?_|refine aa.eB ai I C C C C C C zJ b6 ?_|refine aa.cT ai I C C C C C C C C C zJ b6 (fun I=>?_)|refine aa.dY ai I C C C C C C C (fun cJ I=>?_)|refine aa.eg C C C C C cu ?_|(fail_if_success refine aa.same true C ?_);(fail_if_success refine aa.same false C ?_);refine aa.gV C C (fun h=>?_) (fun h=>?_)|refine ae.cond C (fun h=>?_) (fun h=>?_))
  all_goals first
   | exact Fin.cx I C (aS.of_eq (congrArg af.bool (by rw [an,show qT x=true by clear I an U ad;grind];rfl)))
   | exact bn.mk (j+1) I ⟨au,by rw [an,show qT x=false by clear I an U ad;grind];rfl⟩ ca aX p1
theorem Pf:∀ (f:Nat) (n:Int) (l:List Int),n≤lU f n l
  | 0,n,l=>Int.le_refl _
  | f+1,n,l=>by
    rw [lU];split
    · have:=Pf f (n+1) l;omega
    · exact Int.le_refl _
def Pg (b:Bool) (o:ey) (K:a8):Prop:=(∃ v,o = .ret (.cp [v,.bool b]))∧K=[]
theorem aai (w:bx) (hw:w.owner.length≤40) (L:List cf) (arg:Int) (path:List Int) (bN:ny w L) (aD:path.length≤2):bE Tryz.prog 176 [kB w L arg path] [] (Pg (uG w.owner.length L arg path)):=by
 have aq:=bA;have U:=II w L arg path bN ag;have ad:=OV w hw L arg path bN aD;have eL:=bN.on arg path;have aU:uG w.owner.length L arg path=match oX (fo L arg path) (-1000000000,1000000000,[]) with
  | none=>false
  | some a=>decide (AT (a.2.2.length+1) a.1 a.2.2≤a.2.1)&&th w.owner.length L arg path:=rfl
 refine bE.bh ai Tryz.func176 C C fun s I=>?_
 generalize fo L arg path=M at U eL aU;have xc:=eL.1;unfold Pg;generalize uG w.owner.length L arg path=res at aU ⊢;unfold kB n5 c9 bf at *;refine bW ?_;refine ae.h7 I 3 1 0 fun I=>?_
 refine ae.b4 [1,16,17] C I (σ:=Nat×Int×Int×List Int×bL) (fun q=>[(18,.int .i64 (q.1:Int)),(4,.int .i64 q.2.1),(5,.int .i64 q.2.2.1),(6,.aA 1 (q.2.2.2.1.map ba) q.2.2.2.2)]) (fun q=>[(q.2.2.2.2,.row 3 1 q.2.2.2.1.length)])
  (fun q=>q.1≤M.length∧oX M (-1000000000,1000000000,[])=oX (M.drop q.1) (q.2.1,q.2.2.1,q.2.2.2.1)∧q.2.2.2.1.length≤q.1∧(-1000000001≤q.2.1∧q.2.1≤1000000001) ∧ -1000000001≤q.2.2.1∧q.2.2.1≤1000000001) (fun q=>M.length-q.1) (0,-1000000000,1000000000,[],.nil) ⟨zero_le _,rfl,Nat.le_refl _,⟨by decide,by decide⟩,by decide,by decide⟩
  ⟨⟨_,rfl,aL⟩,⟨_,rfl,aL⟩,⟨_,rfl,aL⟩,⟨_,rfl,aS.nil gW⟩,trivial⟩ (aH.dq _) ?_
 rintro ⟨j,gC,aQ,no,own⟩ ⟨aK,an,nH,⟨lz,eS⟩,aaj,aak⟩ I
 try simp only at aK an nH lz eS aaj aak I ⊢
 refine b7 ?_;refine ae.cond C (fun au=>?_) (fun aV=>?_)
 ·have au:j<M.length:=by simpa using au
  obtain ⟨x,ab,bJ⟩:=b1 (f:=fun x:cf=>(ij x).bK) au;have fc:=eL.at (mem_of_getElem? ab);have dA:=yi x fc.1;have bJ:(M.map fun x=>(ij x).bK)[j]? = some (ij x).bK:=bJ;rw [ak.bX] at bJ;simp only [ak.bX] at dA;rw [drop_cons ab,oX] at an;have dG:IntKind.wrap .i64 (x.1.n-1)=x.1.n-1:=ek ag ag;unfold ak.cells at bJ dA;have b2:x.1.op=2∨x.1.op=3∨x.1.op=4:=by have:=fc.1;unfold ak.cW at this;simp at this;omega
  rcases b2 with h|h|h
  ·rw [if_pos h] at an
   rw [h] at dA;cases Et:(decide (x.1.cls>1) != x.2) with
   | true=>
    rw [Et,if_pos C] at an;rw [an] at aU;simp only at aU;rw [aU];refine ej ?_;refine ae.cond C (fun _=>?_) (fun h=>absurd (Et.symm.trans h) a');refine ja ?_;exact Fin.bu I C aL .nil ⟨⟨_,rfl⟩,rfl⟩
   | false=>
    rw [Et,if_neg a'] at an;refine ej ?_;refine ae.cond C (fun h=>absurd (Et.symm.trans h) a') (fun _=>?_);refine gd ?_;exact bn.mk (j+1,gC,aQ,no,own) I ⟨au,an,by simp<;>omega,⟨by show -1000000001≤gC;omega,by show gC≤1000000001;omega⟩,by show -1000000001≤aQ;omega,by show aQ≤1000000001;omega⟩ By Bz p1
  ·rw [if_neg ag,if_pos h] at an
   rw [h] at dA;cases az:x.2 with
   | true=>
    rw [az] at dA;rw [az,if_pos C] at an;refine ej ?_;exact bn.mk (j+1,(max gC x.1.n),aQ,no,own) I ⟨au,an,by simp<;>omega,⟨by show -1000000001≤(max gC x.1.n);omega,by show (max gC x.1.n)≤1000000001;omega⟩,by show -1000000001≤aQ;omega,by show aQ≤1000000001;omega⟩ By Bz p1
   | false=>
    rw [az] at dA;rw [az,if_neg a'] at an;refine ej ?_;exact bn.mk (j+1,gC,(min aQ (x.1.n-1)),no,own) I ⟨au,an,by simp<;>omega,⟨by show -1000000001≤gC;omega,by show gC≤1000000001;omega⟩,by show -1000000001≤(min aQ (x.1.n-1));omega,by show (min aQ (x.1.n-1))≤1000000001;omega⟩ By Bz p1
  ·rw [if_neg ag,if_neg ag] at an
   rw [h] at dA;cases az:x.2 with
   | true=>
    rw [az] at dA;rw [az,if_pos C] at an;refine ej ?_;refine aa.gb ai I C C C C C C C en C C C C C C C C aY hi j9 ag (fun bT I=>?_);refine fG ?_;exact bn.mk (j+1,gC,aQ,(no++[x.1.n]),(.own bT)) I ⟨au,an,by simp<;>omega,⟨by show -1000000001≤gC;omega,by show gC≤1000000001;omega⟩,by show -1000000001≤aQ;omega,by show aQ≤1000000001;omega⟩ By Bz p1
   | false=>
    rw [az] at dA;rw [az,if_neg a'] at an;refine ej ?_;exact bn.mk (j+1,(max gC x.1.n),(min aQ x.1.n),no,own) I ⟨au,an,by simp<;>omega,⟨by show -1000000001≤(max gC x.1.n);omega,by show (max gC x.1.n)≤1000000001;omega⟩,by show -1000000001≤(min aQ x.1.n);omega,by show (min aQ x.1.n)≤1000000001;omega⟩ By Bz p1
 have aV:j=M.length:=by simp at aV;omega
 rw [ep ag,oX] at an;rw [an] at aU;simp only [IM] at aU;refine bC ?_;refine ae.b4 [1,5,6] C I (σ:=Int) (fun n=>[(11,.int .i64 n)]) (fun _=>[(own,.row 3 1 no.length)]) (fun n=>gC≤n∧n≤1000000002∧lU (no.length+1) gC no=lU (no.length+1) n no) (fun n=>(1000000002-n).toNat) gC ⟨Int.le_refl _,by omega,rfl⟩ (cq C) (aH.dq _) ?_;rintro n ⟨sK,yA,lF⟩ I
 try simp only at sK yA lF I ⊢
 refine b7 ?_;refine ae.cond C (fun hle=>?_) (fun pb=>?_);rotate_left
 ·have pb:aQ<n:=by simp at pb;omega
  have:=Pf (no.length+1) n no;rw [decide_eq_false (by rw [lF];omega),Bool.false_and] at aU;rw [aU];refine dN ?_;exact Fin.bu I C aL .nil ⟨⟨_,rfl⟩,rfl⟩
 have hle:n≤aQ:=by simpa using hle
 refine jb ?_;refine ae.b4 [1,5,6,11,78,79] C I (σ:=Nat) (fun k=>[(80,.int .i64 (k:Int)),(12,.bool (!(no.take k).contains n))]) (fun _=>[(own,.row 3 1 no.length)]) (fun k=>k≤no.length) (fun k=>no.length-k) 0 (zero_le _) (cq C) (aH.all _) ?_;rintro k aE I
 try simp only at aE I ⊢
 refine b7 ?_;refine ae.cond C (fun cz=>?_) (fun dr=>?_)
 ·have cz:k<no.length:=by simpa using cz
  obtain ⟨y,ay,da⟩:=b1 (f:=ba) cz;have Eu:=GI ay n;unfold ba at da;cases aC:(no.take k).contains n with
  | true=>
   rw [aC,Bool.true_or] at Eu;refine bC ?_;exact bn.mk (k+1) I cz (by repeat (first|exact trivial|refine ⟨⟨_,rfl,aL⟩,?_⟩|refine ⟨⟨_,rfl,aS.of_eq (by (first|rw [jD ag]|rw [Eu];rfl))⟩,?_⟩)) (aH.all _) (by show no.length-(k+1)<no.length-k;omega)
  | false=>
   rw [aC,Bool.false_or] at Eu;have e:(y != n) = !(n==y):=by
    by_cases h:y=n
    ·subst h;simp
    ·rw [beq_eq_false_iff_ne.2 (Ne.symm h)];simpa using h
   refine bC ?_;exact bn.mk (k+1) I cz (by repeat (first|exact trivial|refine ⟨⟨_,rfl,aL⟩,?_⟩|refine ⟨⟨_,rfl,aS.of_eq (by (first|rw [jD ag]|(rw [Eu,← e])))⟩,?_⟩)) (aH.all _) (by show no.length-(k+1)<no.length-k;omega)
 have dr:k=no.length:=by simp at dr;omega
 subst dr;rw [take_length];have tf:lU (no.length+1) n no=if no.contains n then lU no.length (n+1) no else n:=rfl
 cases aC:no.contains n with
 | true=>
  have pB:=Dy (n:=n) (l:=no) (by simpa using aC);have aby:=Hq n no;rw [aC,if_pos C] at tf;refine bC ?_;exact bn.mk (n+1) I ⟨by omega,by omega,by rw [lF,tf];exact Dz _ _ _ _ ag ag⟩ (by repeat (first|exact trivial|refine ⟨⟨_,rfl,aL⟩,?_⟩|refine ⟨⟨_,rfl,aS.of_eq x3⟩,?_⟩)) (aH.all _) (by show (1000000002-(n+1)).toNat<(1000000002-n).toNat;omega)
 | false=>
  rw [aC,if_neg a'] at tf;rw [lF,tf,decide_eq_true hle,Bool.true_and] at aU;rw [aU];refine bW ?_;exact Fin.bu I C aL .nil ⟨⟨_,rfl⟩,rfl⟩
def Ph (b:Bool) (o:ey) (_K:a8):Prop:=∃ v,o = .ret (.cp [v,.bool b])
theorem aal (w:bx) (hw:gw w) (L:List cf) (arg:Int) (path:List Int) (bN:ny w L) (aD:path.length≤2) (cn:List Int→Bool) (rQ:∀ s,mT L arg path s=true→aR Tryz.prog 135 [kB w L arg (path++[s])] (.bool (cn (path++[s])))) :
    bE Tryz.prog 179 [kB w L arg path] [] (Ph (wN w L cn arg path)):=by
  have aq:=bA;have s9:=hw.kt;have po:=hw.bo;have U:=II w L arg path bN ag;have ad:=OU w hw.bo L arg path bN aD;have eL:=bN.on arg path;have aU:wN w L cn arg path=match pT (fo L arg path) (fun _=>false,fun _=>false) with
    | none=>false
    | some a=>match rT w L cn arg path (jI w.owner.length L arg path) a with
      | none=>false
      | some a => !a.2 0&&(range (3+w.ps.length)).all fun k => !(hj w.ps w.ps.length (fun k=>if k=0 then false else a.1 k) k&&a.2 k):=rfl
  have tz:∀ s∈jI w.owner.length L arg path,mT L arg path s=true∧0≤s∧s<(w.owner.length:Int):=fun s ar=>by
    have h:=(BI aD bN.2 s).1 ((En aD bN.2).1 ar);have:=xe bN.2 h;exact ⟨h,this.1,this.2.1⟩
  have kv:=fun k:Int=>Hj w L arg path k ag
  have lk:∀ k:Int,(path++[k]).length≤3:=fun k=>by rw [length_append];simp;omega
  have h2:=fun k:Int=>OT w L arg (path++[k]) bN (lk k)
  have mg:(jI w.owner.length L arg path).length≤40:=by
    unfold jI;rw [length_map];have:=length_filter_le (fun s:Nat=>mT L arg path (s:Nat)) (range w.owner.length);rw [length_range] at this;omega
  refine bE.bh ai Tryz.func179 C C fun s I=>?_
  generalize fo L arg path=M at U eL aU;generalize jI w.owner.length L arg path=l at ad tz aU mg;have xc:=eL.1;unfold Ph;generalize wN w L cn arg path=res at aU ⊢;have dG:IntKind.wrap .i64 (3+((w.ps.map fun l=>af.aA 1 (l.map ba) .bb).length:Int))=((3+w.ps.length:Nat):Int):=by rw [length_map,ek ag ag];push_cast;rfl
  obtain ⟨gN,tQ⟩:∃ gN,gN=3+w.ps.length:=⟨_,rfl⟩;rw [← tQ] at dG;unfold kB n5 c9 bf at *;refine dv ?_;refine aa.ui ai I gN C C C C C C C C C C (congrArg (fun z=>some (af.int .i64 z)) dG) (congrArg (fun z=>some (af.int .i64 z)) dG) (by show _*1≤_;omega) ag (fun b I=>?_);rw [GH] at I ⊢;refine hq ?_;refine aa.ui ai I gN C C C C C C C C C C (congrArg (fun z=>some (af.int .i64 z)) dG) (congrArg (fun z=>some (af.int .i64 z)) dG) (by show _*1≤_;omega) ag (fun dx I=>?_);rw [GH] at I ⊢;refine c1 ?_;refine ae.b4 [1,4,5,32,33] C I (σ:=Nat×(Nat→Bool)×(Nat→Bool)) (fun q=>[(34,.int .i64 (q.1:Int))]) (fun q=>[(.own dx,.box 4 (hO gN q.2.2)),(.own b,.box 4 (hO gN q.2.1))]) (fun q=>q.1≤M.length∧pT M (fun _=>false,fun _=>false)=pT (M.drop q.1) q.2) (fun q=>M.length-q.1) (0,(fun _=>false),(fun _=>false)) ⟨zero_le _,rfl⟩ (cq C) (aH.all _) ?_;rintro ⟨j,f,g⟩ ⟨aK,an⟩ I
  try simp only at aK an I ⊢
  refine b7 ?_;refine ae.cond C (fun au=>?_) (fun aV=>?_)
  · have au:j<M.length:=by simpa using au
    obtain ⟨x,ab,bJ⟩:=b1 (f:=fun x:cf=>(ij x).bK) au;have fc:=eL.at (mem_of_getElem? ab);have dA:=yi x fc.1;have bJ:(M.map fun x=>(ij x).bK)[j]? = some (ij x).bK:=bJ;rw [ak.bX] at bJ;simp only [ak.bX] at dA;rw [drop_cons ab,pT] at an;have cv:=fc.2.2.2.2;unfold ak.cells at bJ dA;by_cases g1:x.1.op=2;rotate_left
    · rw [if_pos (.inl g1)] at an
      cases az:x.2 with
      | true=>
        rw [az] at dA;rw [az,if_pos C] at an;refine ej ?_;refine aa.de 51 C (by simpa using g1) ?_;refine bC ?_;exact bn.mk (j+1,f,g) I ⟨au,an⟩ ca (aH.all _) p1
      | false=>
        rw [az] at dA;rw [az,if_neg a'] at an;rw [an] at aU;simp only at aU;refine ej ?_;refine aa.de 51 C (by simpa using g1) ?_;refine e1 ?_;exact Fin.bu (K:=[]) I C aL .nil ⟨_,by rw [aU]⟩
    rw [g1] at dA;have cv:=cv g1;by_cases g2:x.1.cls=1
    · rw [g2] at dA
      rw [if_pos (by simp [g1,g2])] at an;cases az:x.2 with
      | true=>
        rw [az] at dA;rw [az,if_pos C] at an;refine ej ?_;exact bn.mk (j+1,f,g) I ⟨au,an⟩ ca (aH.all _) p1
      | false=>
        rw [az] at dA;rw [az,if_neg a'] at an;rw [an] at aU;simp only at aU;refine ej ?_;exact Fin.bu (K:=[]) I C aL .nil ⟨_,by rw [aU]⟩
    by_cases g3:x.1.cls=2
    · rw [g3] at dA
      rw [if_pos (by simp [g1,g3])] at an;cases az:x.2 with
      | true=>
        rw [az] at dA;rw [az,if_pos C] at an;refine ej ?_;exact bn.mk (j+1,f,g) I ⟨au,an⟩ ca (aH.all _) p1
      | false=>
        rw [az] at dA;rw [az,if_neg a'] at an;rw [an] at aU;simp only at aU;refine ej ?_;exact Fin.bu (K:=[]) I C aL .nil ⟨_,by rw [aU]⟩
    rw [if_neg (by simp [g1,g2,g3])] at an;obtain ⟨c,aC⟩:∃ c:Nat,x.1.cls=c:=⟨x.1.cls.toNat,by omega⟩;rw [aC] at dA g2 g3 an cv;rw [toNat_natCast] at an;cases az:x.2 with
    | true=>
      rw [az] at dA;rw [az,if_pos C] at an;refine ej ?_;refine aa.cY 56 C (by simpa using g2) ?_;refine fH ?_;refine ae.cond C (fun h=>absurd fD g3) (fun _=>?_);refine bC ?_;refine aa.fi ai c C C C C C C C C C C ag ?_;refine aa.jX ai I (hO gN fun k=>if k=c then true else g k) C C C C C C C C C aY (by rw [nr];show c*1+1≤_;omega) BA (fun I=>?_);refine fG ?_;exact bn.mk (j+1,f,fun k=>if k=c then true else g k) I ⟨au,an⟩ ca aX p1
    | false=>
      rw [az] at dA;rw [az,if_neg a'] at an;refine ej ?_;refine aa.cY 56 C (by simpa using g2) ?_;refine fH ?_;refine ae.cond C (fun h=>absurd fD g3) (fun _=>?_);refine bC ?_;refine aa.fi ai c C C C C C C C C C C ag ?_;refine aa.jX ai I (hO gN fun k=>if k=c then true else f k) C C C C C C C C C aY (by rw [nr];show c*1+1≤_;omega) BA (fun I=>?_);refine fG ?_;exact bn.mk (j+1,(fun k=>if k=c then true else f k),g) I ⟨au,an⟩ ca aX p1
  have aV:j=M.length:=by simp at aV;omega
  rw [ep ag,pT] at an;rw [an] at aU;simp only at aU;clear an;refine c1 ?_;refine ae.b4 [1,4,5,71,72] C I (σ:=Nat×(Nat→Bool)×(Nat→Bool)) (fun q=>[(73,.int .i64 (q.1:Int))]) (fun q=>[(.own dx,.box 4 (hO gN q.2.2)),(.own b,.box 4 (hO gN q.2.1))]) (fun q=>q.1≤l.length∧rT w L cn arg path l (f,g)=rT w L cn arg path (l.drop q.1) q.2) (fun q=>l.length-q.1) (0,f,g) ⟨zero_le _,rfl⟩ (cq C) (aH.all _) ?_;rintro ⟨i,f2,g2⟩ ⟨aQ,cy⟩ I
  try simp only at aQ cy I ⊢
  refine b7 ?_;refine ae.cond C (fun au=>?_) (fun dr=>?_)
  · have au:i<l.length:=by simpa using au
    obtain ⟨y,ay,da⟩:=b1 (f:=ba) au;obtain ⟨aam,abz,h5⟩:=tz y (mem_of_getElem? ay);have rV:=rQ y aam;have kv:=kv y;have h2:=h2 y;rw [drop_cons ay,rT] at cy;obtain ⟨k,rfl⟩:∃ k:Nat,y=k:=⟨y.toNat,by omega⟩;have rR:k<w.owner.length:=by omega
    obtain ⟨o,ah,Ht⟩:=b1 (f:=ba) rR;have mu:=hw.own o (mem_of_getElem? ah);obtain ⟨ln,rfl⟩:∃ q:Nat,o=q:=⟨o.toNat,by omega⟩;rw [toNat_natCast,getD_eq_getElem?_getD,ah,getD_some,toNat_natCast] at cy;unfold ba at da Ht;unfold ba at rV kv h2;cases Bd:lp L arg (path++[(k:Int)])<;>cases Ip:cn (path++[(k:Int)])<;>rw [Bd] at h2 cy<;>rw [Ip] at rV cy<;>simp only [Bool.not_false,Bool.not_true,Bool.and_true,Bool.and_false,false_eq_true,if_true,if_false] at cy
    · rw [cy] at aU
      simp only at aU;refine ej ?_;exact Fin.bu (K:=[]) I C aL .nil ⟨_,by rw [aU]⟩
    · refine ej ?_
      refine aa.fi ai ln C C C C C C C C C C ag ?_;refine aa.jX ai I (hO gN fun k=>if k=ln then true else f2 k) C C C C C C C C C aY (by rw [nr];show ln*1+1≤_;omega) BA (fun I=>?_);refine bC ?_;exact bn.mk (i+1,(fun k=>if k=ln then true else f2 k),g2) I ⟨au,cy⟩ ca aX uW
    · refine ej ?_
      refine aa.fi ai ln C C C C C C C C C C ag ?_;refine aa.jX ai I (hO gN fun k=>if k=ln then true else g2 k) C C C C C C C C C aY (by rw [nr];show ln*1+1≤_;omega) BA (fun I=>?_);refine fG ?_;exact bn.mk (i+1,f2,fun k=>if k=ln then true else g2 k) I ⟨au,cy⟩ ca aX uW
    · refine ej ?_
      exact bn.mk (i+1,f2,g2) I ⟨au,cy⟩ ca (aH.all _) uW
  have dr:i=l.length:=by simp at dr;omega
  rw [ep ag,rT] at cy;rw [cy] at aU;simp only at aU;clear cy rQ kv h2 ad;refine bC ?_;refine aa.fi ai 0 C C C C C C C C C C ag ?_;refine aa.jX ai I (hO gN fun k=>if k=0 then false else f2 k) C C C C C C C C C aY (by rw [nr];show 0*1+1≤_;omega) BA (fun I=>?_);refine hq ?_;refine aa.fi ai 0 C C C C C C C C C C ag ?_;refine aa.jW ai I C C C C C C aY C (v := .bool (g2 0)) (by rw [Nat.zero_mul];exact s8 g2 ag) ?_;cases Pj:g2 0 with
  | true=>
    rw [Pj] at aU;have aU:res=false:=aU;refine eh ?_;exact Fin.bu (K:=[]) I C aL .nil ⟨_,by rw [aU]⟩
  | false=>
  rw [Pj,Bool.not_false,Bool.true_and] at aU;refine bC ?_;refine aa.qu ai C C C C C C C ?_;refine dF ?_;obtain ⟨f3,Pk⟩:∃ f3:Nat→Bool,f3=fun k=>if k=0 then false else f2 k:=⟨_,rfl⟩
  rw [← Pk] at I aU ⊢;clear Pk;refine ae.b4 [1,4,5] C I (σ:=Nat×(Nat→Bool)) (fun q=>[(15,.int .i64 (2+q.1:Int))]) (fun q=>[(.own b,.box 4 (hO gN q.2)),(.own dx,.box 4 (hO gN g2))]) (fun q=>q.1≤w.ps.length∧hj w.ps w.ps.length f3=hj w.ps q.1 q.2) (fun q=>q.1) (w.ps.length,f3) ⟨Nat.le_refl _,rfl⟩ (by repeat (first|exact trivial|refine ⟨⟨_,rfl,aL⟩,?_⟩|refine ⟨⟨_,rfl,aS.of_eq (by (rw [ek ag ag];congr 1;rw [tQ];push_cast;omega))⟩,?_⟩)) aX ?_;rintro ⟨m,f4⟩ ⟨hm,e0⟩ I
  try simp only at hm e0 I ⊢
  refine b7 ?_;refine ae.cond C (fun kx=>?_) (fun jV=>?_)
  · have kx:1≤m:=by simp at kx;omega
    obtain ⟨q,rfl⟩:∃ q,m=q+1:=⟨m-1,by omega⟩;obtain ⟨pl,h4,aan⟩:=b1 (f:=fun l:List Int=>af.aA 1 (l.map ba) .bb) (show q<w.ps.length by omega);have abA:=hw.short pl (mem_of_getElem? h4);have GJ:=fun p aD=>v7 hw h4 (p:=p) aD
    have j':(2+((q+1:Nat):Int))=((3+q:Nat):Int):=by push_cast;omega
    have iy:IntKind.wrap .i64 (((3+q:Nat):Int)-3)=(q:Int):=by rw [ek ag ag];omega
    have Zl:IntKind.wrap .i64 (((3+q:Nat):Int)-1)=2+(q:Int):=by rw [ek ag ag];omega
    rw [hj,getD_eq_getElem?_getD,h4,getD_some] at e0;rw [j'];refine dF ?_;refine aa.fi ai (3+q) C C C C C C C C C C ag ?_;refine aa.jW ai I C C C C C C aY C (v := .bool (f4 (3+q))) (by rw [mul_one];exact s8 f4 ag) ?_;cases Pl:f4 (3+q) with
    | false=>
      have e:(fun k=>f4 k||(f4 (3+q)&&pl.contains (k:Int)))=f4:=funext fun k=>by rw [Pl];simp
      rw [e] at e0;refine bC ?_;exact bn.mk (q,f4) I ⟨by show q≤_;omega,e0⟩ OE aX (lt_succ_self q)
    | true=>
      rw [Pl] at e0;simp only [Bool.true_and] at e0;refine bC ?_;refine aa.idx ai q C C C C C C C C C C iy aan C ?_;refine dF ?_
      refine ae.b4 [1,4,5,15,133,134] C I (σ:=Nat) (fun i=>[(135,.int .i64 (i:Int))]) (fun i=>[(.own b,.box 4 (hO gN fun k=>f4 k||(pl.take i).contains (k:Int))),(.own dx,.box 4 (hO gN g2))]) (fun i=>i≤pl.length) (fun i=>pl.length-i) 0 (zero_le _) (cq C) (by
        rw [show (fun k=>f4 k||(pl.take 0).contains (k:Int))=f4 from funext fun k=>by rw [List.take_zero];simp]
        exact aH.all _) ?_
      rintro i aQ I
      try simp only at aQ I ⊢
      refine b7 ?_;refine ae.cond C (fun au=>?_) (fun aV=>?_)
      · have au:i<pl.length:=by simpa using au
        obtain ⟨p,aD,e6⟩:=b1 (f:=ba) au;have US:=GJ p (mem_of_getElem? aD);obtain ⟨xg,rfl⟩:∃ xg:Nat,p=xg:=⟨p.toNat,by omega⟩;have Di:∀ k,(f4 k||(pl.take (i+1)).contains (k:Int))=if k=xg then true else (f4 k||(pl.take i).contains (k:Int)):=fun k=>by
          rw [GI aD];by_cases e:k=xg
          · subst e;rw [if_pos C];simp
          · rw [if_neg e,show ((k:Int)==(xg:Int))=false by rw [beq_eq_false_iff_ne];omega,Bool.or_false]
        unfold ba at e6;refine dF ?_;refine aa.fi ai xg C C C C C C C C C C ag ?_;refine aa.jX ai I (hO gN fun k=>f4 k||(pl.take (i+1)).contains (k:Int)) C C C C C C C C C aY (by rw [nr];show xg*1+1≤_;omega) (by rw [pD,mul_one];exact Az Di) (fun I=>?_);refine fG ?_;exact bn.mk (i+1) I au ca aX (by show pl.length-(i+1)<pl.length-i;omega)
      have aV:i=pl.length:=by simp at aV;omega
      rw [aV,take_length] at I ⊢;refine bC ?_;exact bn.mk (q,fun k=>f4 k||pl.contains (k:Int)) I ⟨by show q≤_;omega,e0⟩ OE aX (lt_succ_self q)
  have jV:m=0:=by simp at jV;omega
  subst jV;rw [hj] at e0;rw [e0] at aU;clear e0;refine bC ?_;refine aa.qu ai C C C C C C C ?_;refine dF ?_;refine ae.b4 [4,5,144] C I (σ:=Nat) (fun i=>[(145,.int .i64 (i:Int))]) (fun _=>[(.own b,.box 4 (hO gN f4)),(.own dx,.box 4 (hO gN g2))]) (fun i=>i≤gN∧((range gN).all fun k => !(f4 k&&g2 k))=((range gN).drop i).all fun k => !(f4 k&&g2 k)) (fun i=>gN-i) 0 ⟨zero_le _,rfl⟩ (cq C) (aH.all _) ?_;rintro i ⟨aQ,bg⟩ I
  try simp only at aQ bg I ⊢
  refine b7 ?_;refine ae.cond C (fun au=>?_) (fun aV=>?_)
  · have au:i<gN:=by simpa using au
    rw [drop_cons (List.getElem?_range au),all_cons] at bg;refine bC ?_;refine aa.fi ai i C C C C C C C C C C au ?_;refine aa.jW ai I C C C C C C aY C (v := .bool (f4 i)) (by rw [mul_one];exact s8 f4 au) ?_;cases uV:f4 i with
    | false=>
      rw [uV] at bg;refine bC ?_;exact bn.mk (i+1) I ⟨au,bg⟩ ca (aH.all _) (by show gN-(i+1)<gN-i;omega)
    | true=>
      rw [uV,Bool.true_and] at bg;refine dy ?_;refine aa.fi ai i C C C C C C C C C C au ?_;refine aa.jW ai I C C C C C C aY C (v := .bool (g2 i)) (by rw [mul_one];exact s8 g2 au) ?_;cases DP:g2 i with
      | true=>
        rw [DP] at bg;have aU:res=false:=by rw [aU,← tQ,bg];rfl
        refine e1 ?_;exact Fin.bu (K:=[]) I C aL .nil ⟨_,by rw [aU]⟩
      | false=>
        rw [DP] at bg;refine bC ?_;exact bn.mk (i+1) I ⟨au,bg⟩ ca (aH.all _) (by show gN-(i+1)<gN-i;omega)
  have aV:i=gN:=by simp at aV;omega
  have aU:res=true:=by rw [aU,← tQ,bg,aV,List.drop_of_length_le a'];rfl
  refine dN ?_;exact Fin.bu (K:=[]) I C (aS.cp (.cons (aS.any _) (.one aL))) .nil ⟨.any,by rw [aU]⟩
theorem Pm (w:bx) (hw:gw w) (L:List cf) (arg:Int) (bN:ny w L):∀ (k:Nat) (path:List Int),path.length≤2→3≤k+path.length→aR Tryz.prog 135 [kB w L arg path] (.bool (oY w L arg k path))
  | 0,path,aD,al=>by omega
  | k+1,path,aD,al=>by
    have U:=aai w hw.bo L arg path bN aD;have ad:=aah w hw.bo L arg path bN aD
    have bd:=aal w hw L arg path bN aD (oY w L arg k) (fun s ar=>by
      have:=(xe bN.2 ar).2.2
      have e:(path++[s]).length=path.length+1:=by simp
      exact Pm w hw L arg bN k (path++[s]) ag ag)
    have hm:oY w L arg (k+1) path=(uG w.owner.length L arg path||(wM w.owner.length L arg path||wN w L (oY w L arg k) arg path)):=by rw [oY]
    rw [hm];refine aR.bh ai Tryz.func135 C C fun s I=>?_
    unfold kB n5 c9 bf at *;refine dv ?_;refine aa.b3 rfl rfl rfl rfl rfl U I .nil ?_ (fun _ _ ⟨⟨_,h⟩,_⟩ _=>by cases h);rintro _ _ ⟨⟨v,⟨⟩⟩,rfl⟩ I;cases uG w.owner.length L arg path with
    | true=>
      rw [Bool.true_or];refine eh ?_;exact bl I
    | false=>
    rw [Bool.false_or];cases lu:wM w.owner.length L arg path with
    | true=>
      rw [lu] at ad;rw [Bool.true_or];refine bW ?_;exact bl I
    | false=>
    rw [lu] at ad;rw [Bool.false_or];refine bW ?_;refine aa.b3 rfl rfl rfl rfl rfl bd I .nil ?_ (fun _ _ ⟨_,h⟩ _=>by cases h);rintro _ aO ⟨v,⟨⟩⟩ I;refine eh ?_;exact bl I
theorem aao (w:bx) (hw:gw w) (L:List cf) (bN:ny w L):aR Tryz.prog 89 [fm w,n5 L] (.bool (Du w L)):=by
 have aq:=bA;refine aR.bh ai Tryz.func89 C C fun s I=>?_
 have U:=fun a:Nat=>Pm w hw L (a:Int) bN 3 [] a' a'
 have ez:Du w L=(range 3).all fun a=>oY w L ((a:Nat):Int) 3 []:=rfl
 rw [ez];unfold kB n5 fm fr c9 bf at *;refine gm ?_;refine ae.b4 [1,2] C I (σ:=Nat) (fun i=>[(5,.int .i64 (i:Int))]) (fun _=>[]) (fun i=>i≤3∧((range 3).all fun a=>oY w L ((a:Nat):Int) 3 [])=((range 3).drop i).all fun a=>oY w L ((a:Nat):Int) 3 []) (fun i=>3-i) 0 ⟨zero_le _,rfl⟩ (cq C) aX ?_;rintro i ⟨aQ,bg⟩ I
 try simp only at aQ bg I ⊢
 refine b7 ?_;refine ae.cond C (fun au=>?_) (fun aV=>?_);rotate_left
 ·have aV:i=3:=by simp at aV;omega
  rw [bg,aV];refine dN ?_;exact bl I
 have au:i<3:=by simp at au;omega
 rw [drop_cons (List.getElem?_range au),all_cons] at bg;have U:=aR.args (.one (aS.agg (.cons aL (.cons aL (.cons aL (.cons aL (.cons (aS.empty (sz:=0) (own := .nil)) (.one aL)))))))) (U i);cases aC:oY w L ((i:Nat):Int) 3 [] with
 | false=>
  rw [aC] at U bg;rw [bg];refine ej ?_;exact bl I
 | true=>
  rw [aC] at U bg;refine ej ?_;exact bn.mk (i+1) I ⟨au,bg⟩ ca aX (by show 3-(i+1)<3-i;omega)
theorem aap (f:ak):aR Tryz.prog 129 [f.bK] (f.not.bK):=by
 have aq:=bA;refine aR.bh ai Tryz.func129 C C fun s I=>?_
 rw [ak.bX,ak.bX];unfold ak.cells
 repeat (first|(refine Kb I ?_;clear I;intro I)|refine aa.dY ai I rfl rfl rfl rfl rfl rfl rfl (fun cJ I=>?_))
 refine Fin.cx I (nO C C (bp.get aY I) C) (aS.trans (aS.agg (.cons aL (.cons aL (.cons (aS.empty (sz':=1)) (.cons aL (.cons aL (.one aS.bb))))))) (aS.of_eq ?_));exact congrArg (fun z=>af.agg [.int .i64 5,.int .i64 0,.aA 1 [] .bb,.int .i64 0,.int .i64 0,.aA 6 [z] .bb]) (ak.bX f).symm
theorem Pn:∀ (l:List ak) (i v j:Nat) (x:ak),l[j]? = some x→(rX i l v)[j]? = some (x,!v.testBit (i+j))
  | y::r,i,v,0,x,h=>by
    rw [rX];have:y=x:=by simpa using h
    rw [this];rfl
  | y::r,i,v,j+1,x,h=>by
    rw [rX,List.getElem?_cons_succ,Pn r (i+1) v j x fD];rw [show i+1+j=i+(j+1) by omega]
theorem Po:∀ (l:List ak) (i v:Nat),(rX i l v).length=l.length
 | [],_,_=>rfl
 | y::r,i,v=>by rw [rX,length_cons,Po r,length_cons]
theorem Pp {l:List ak} {v j:Nat} {x:ak} (h:l[j]? = some x):(rY l v)[j]? = some (x,!v.testBit j):=by
 have:=Pn l 0 v j x h;rwa [Nat.zero_add] at this
theorem IT (l:List ak) (v:Nat):(rY l v).length=l.length:=Po l 0 v
theorem aaq {w:bx} {l:List ak} (aB:iI w l) (ib:l.length≤7) (v:Nat):ny w (rY l v):=by
 refine ⟨by rw [IT];omega,fun x ab=>?_⟩;obtain ⟨j,aK⟩:=getElem?_of_mem ab;have vu:=qB aK;rw [IT] at vu;have h:=Pp (v:=v) (getElem?_eq_getElem vu);rw [aK] at h;simp only [Option.some.injEq] at h;subst h;have:=aB _ (List.getElem_mem vu);rw [nh,and_eq_true] at this;exact ⟨this.1.1,this.2⟩
theorem Pq (p:bP) (aD:fj p) (db:gy p=true) (l:List ak) (e5:l.length≤7) (dg:iI (b9 p) l) (v:Nat) (av:v<2^63):aR Tryz.prog 82 [cA p,cS l,.int .i64 (v:Int)] (.bool (lV (b9 p) l v)):=by
 have aq:=bA;have nu:=yF db;have Ps:=aaq dg e5 v;have U:=aao (b9 p) nu (rY l v) Ps;have ad:=GM p aD (by have:=nu.bo;have e:(b9 p).owner=fC 0 p.ck:=rfl;rw [e] at this;omega);have al:=fun i (aQ:i<64)=>IH v i av aQ
 rw [aag nu Ps.2] at U;have aC:lV (b9 p) l v=mU (b9 p) (et (rY l v)):=rfl;rw [aC];have mg:=IT l v;refine aR.bh ai Tryz.func82 C C fun s I=>?_
 generalize mU (b9 p) (et (rY l v))=res at *;obtain ⟨xs,c5⟩:∃ xs:Nat→List af,∀ j,xs j=((rY l v).take j).map (fun x=>(ij x).bK):=⟨_,fun _=>rfl⟩;have bt:xs 0=[]:=by rw [c5];rfl
 have x9:∀ j,(xs j).length≤j:=fun j=>by rw [c5,length_map,length_take];omega
 unfold cA cL fm fr c9 bf cS n5 at *;refine gm ?_;refine ae.h7 I 58 6 0 fun I=>?_
 refine ae.b4 [1,2,3] C I (σ:=Nat×bL) (fun q=>[(8,.int .i64 (q.1:Int)),(7,.aA 6 (xs q.1) q.2)]) (fun q=>[(q.2,.row 58 6 (xs q.1).length)]) (fun q=>q.1≤l.length) (fun q=>l.length-q.1) (0,.nil) (zero_le _) ⟨⟨_,rfl,aL⟩,⟨_,rfl,by rw [bt];exact aS.nil gW⟩,trivial⟩ wh ?_;rintro ⟨j,own⟩ aK I;simp only at aK I ⊢;refine b7 ?_;refine ae.cond C (fun au=>?_) (fun aV=>?_);rotate_left
 ·have aV:j=l.length:=by simp at aV;omega
  subst aV;have he:xs l.length=(rY l v).map (fun x=>(ij x).bK):=by rw [c5,← mg,take_length]
  rw [he];refine c1 ?_;exact bl I
 have au:j<l.length:=by simpa using au
 obtain ⟨x,ab,bJ⟩:=b1 (f:=ak.bK) au;have ar:=c5 (j+1);rw [iA (Pp (v:=v) ab),map_append,← c5] at ar;have ar:xs (j+1)=xs j++[(ij (x,!v.testBit j)).bK]:=ar;have df:(xs (j+1)).length=(xs j).length+1:=by rw [ar];simp
 have lC:=x9 j;have al:=al j ag;have bd:=aap x;rw [ak.bX] at bJ;cases lb:v.testBit j with
 | true=>
  rw [lb] at al ar;rw [show ij (x,!true)=x from rfl,ak.bX] at ar;unfold ak.cells at bJ ar;refine c1 ?_;refine aa.gb ai I C C C C C C C en C C C C C C C C aY hi yz ag (fun bT I=>?_);refine fG ?_;exact bn.mk (j+1,.own bT) I au kq um mO
 | false=>
  rw [lb] at al ar;rw [show ij (x,!false)=x.not from rfl,ak.bX] at ar;rw [ak.bX,ak.bX] at bd;unfold ak.cells at bJ bd ar;refine c1 ?_;refine aa.gb ai I C C C C C C C en C C C C C C C C aY hi yz ag (fun bT I=>?_);refine fG ?_;exact bn.mk (j+1,.own bT) I au kq um mO
theorem aar (p:bP) (n:Int):aR Tryz.prog 97 [cA p,.int .i64 n] (.bool (o0 p n)):=by
 have aq:=bA;refine aR.bh ai Tryz.func97 C C fun s I=>?_
 unfold cA cL bf o0
 repeat' (first|(with_reducible first|apply ae.seq|apply b5|apply ae.ret)|refine c0 C ?_|refine ae.cH ?_|refine aa.nil ?_|refine cE C ?_|refine aa.skip C C C ?_|(fail_if_success refine aa.same true C ?_);(fail_if_success refine aa.same false C ?_);refine aa.gV C C (fun h=>?_) (fun h=>?_))
 all_goals exact Fin.cx I C (aS.of_eq rF)
theorem Pt (p:bP) (aD:fj p) (db:gy p=true) (n:Int) (e5:(cK p n).length≤7):aR Tryz.prog 79 [cA p,.int .i64 n] (.aA 1 (hQ (ik (b9 p) (cK p n))) .bb):=by
 have aq:=bA;have U:=Em p aD db n;have dg:=(Ih db n).1;have ad:=fun v av=>Pq p aD db (cK p n) e5 dg v av
 generalize cK p n=l at *;have ts:2^l.length≤2^7:=pow_le_pow_right ag e5;have ya:ik (b9 p) l=oj (b9 p) l (2^l.length):=rfl;rw [ya];refine aR.bh ai Tryz.func79 C C fun s I=>?_
 obtain ⟨xs,c5⟩:∃ xs:Nat→List af,∀ j,xs j=hQ (oj (b9 p) l j):=⟨_,fun _=>rfl⟩;have bt:xs 0=[]:=by rw [c5];rfl
 have x9:∀ j,(xs j).length≤j:=fun j=>by rw [c5];unfold hQ;rw [length_map];exact Om _ _ _
 have uU:∀ j,xs (j+1)=xs j++(if lV (b9 p) l j then [.int .i64 (j:Int)] else []):=fun j=>by
  rw [c5,c5,Ol];unfold hQ;rw [map_append];split<;>rfl
 unfold cA cL bf cS at *;refine bW ?_;refine ae.h7 I 3 1 0 fun I=>?_
 refine ae.b4 [1,2,5] C I (σ:=Nat×bL) (fun q=>[(7,.int .i64 (q.1:Int)),(6,.aA 1 (xs q.1) q.2)]) (fun q=>[(q.2,.row 3 1 (xs q.1).length)]) (fun q=>q.1≤2^l.length) (fun q=>2^l.length-q.1) (0,.nil) (zero_le _) ⟨⟨_,rfl,aL⟩,⟨_,rfl,by rw [bt];exact aS.nil gW⟩,trivial⟩ wh ?_;rintro ⟨j,own⟩ aK I;simp only at aK I ⊢;refine jS ?_;refine aa.shl ((2^l.length:Nat):Int) C C C C C C ag (by rw [length_map];exact Bu e5) ?_;refine fH ?_;refine ae.cond C (fun au=>?_) (fun aV=>?_);rotate_left
 ·have aV:j=2^l.length:=by
   have:¬ ((j:Int)<((2^l.length:Nat):Int)):=by simpa using aV
   omega
  subst aV;rw [c5];refine dN ?_;exact Fin.cx I C aS.bb
 have au:j<2^l.length:=by
  have:((j:Int)<((2^l.length:Nat):Int)):=by simpa using au
  omega
 have ar:=uU j;have lC:=x9 j;have ad:=ad j ag;cases aC:lV (b9 p) l j with
 | false=>
  rw [aC,if_neg a',append_nil] at ar;rw [aC] at ad;refine bW ?_;exact bn.mk (j+1,own) I au kq Ak (by show 2^l.length-(j+1)<2^l.length-j;omega)
 | true=>
  rw [aC,if_pos C] at ar;rw [aC] at ad;have df:(xs (j+1)).length=(xs j).length+1:=by rw [ar];simp
  refine c1 ?_;refine aa.gb ai I C C C C C C C en C C C C C C C C aY hi j9 ag (fun bT I=>?_);refine fG ?_;exact bn.mk (j+1,.own bT) I au kq um (by show 2^l.length-(j+1)<2^l.length-j;omega)
theorem aas (w:bx) (l:List ak) (e5:l.length≤7) (dg:iI w l) (v:Nat) (av:v<2^63):∀ (k:Nat) (f:ak),f.size≤k→gx w f=true→aR Tryz.prog 130 [cS l,f.bK,.int .i64 (v:Int)] (.bool (o1 l v f)):=by
 have nc:bz=1099511627776:=rfl;intro k
 induction k with
 | zero=>intro x h;have:=x.size_eq;omega
 | succ k a1=>
  intro f az aw;have iB:=f.size_eq;have gh:=MW l v f;have yK:=aw;rw [nh,and_eq_true] at aw;obtain ⟨qI,lR⟩:=aw;refine aR.bh ai Tryz.func130 C C fun s I=>?_
  rcases AD qI with ⟨U,ad⟩|⟨aB,ad,U⟩|⟨U,x,ad⟩|⟨U,x,y,ad⟩
  ·rw [U,if_pos C] at gh
   rw [gh,ak.bX];unfold ak.cells;rw [U];refine bC ?_;exact bl I
  ·have q7:=q6 yK aB
   have gh:o1 l v f=match l.findIdx? (fun x=>fs x f) with
    | some i=>v.testBit i
    | none=>false:=by
    rw [gh,if_neg ag,if_neg ag,if_neg ag,if_neg ag];cases l.findIdx? (fun x=>fs x f)<;>rfl
   have jy:=fun x (ab:x∈l)=>IG x f (tr (dg x ab).1 (dg x ab).2) ad (by have:=q6 (dg x ab).1 (dg x ab).2;omega) ag
   have n1:=fun i (aQ:i<64)=>IH v i av aQ
   rw [gh];unfold cS at *;rw [ak.bX] at jy ⊢;unfold ak.cells at jy ⊢;have jy:=fun x ab=>jy x ab
   rcases U with h|h|h
   all_goals
    rw [h] at jy ⊢;refine bC ?_;refine ae.b4 [0,2,4] C I (σ:=Nat) (fun j=>[(7,.int .i64 (j:Int))]) (fun _=>[]) (fun j=>j≤l.length∧∀ i x,i<j→l[i]? = some x→fs x f=false) (fun j=>l.length-j) 0 ⟨zero_le _,fun i x aQ=>absurd aQ (Nat.not_lt_zero _)⟩ (cq C) aX ?_;rintro j ⟨aK,an⟩ I
    try simp only at aK an I ⊢
    refine b7 ?_;refine ae.cond C (fun au=>?_) (fun aV=>?_);rotate_left
    ·have aV:j=l.length:=by simp at aV;omega
     have ab:l.findIdx? (fun x=>fs x f)=none:=by
      rw [List.findIdx?_eq_none_iff];intro z bO;obtain ⟨i,aQ⟩:=getElem?_of_mem bO;have U:=qB aQ;exact an i z ag aQ
     rw [ab];refine dN ?_;exact bl I
    have au:j<l.length:=by simpa using au
    obtain ⟨x,ab,bJ⟩:=b1 (f:=ak.bK) au;have jy:=jy x (mem_of_getElem? ab);have n1:=n1 j ag;rw [ak.bX] at bJ jy;unfold ak.cells at bJ jy;cases aC:fs x f with
    | true=>
     rw [aC] at jy;have uV:l.findIdx? (fun x=>fs x f)=some j:=by
      rw [List.findIdx?_eq_some_iff_getElem];refine ⟨au,by rw [(List.getElem?_eq_some_iff.1 ab).2];exact aC,fun i aQ=>?_⟩;have:=an i l[i] aQ (getElem?_eq_getElem ag);simpa using this
     rw [uV];refine oE ?_;exact bl I
    | false=>
     rw [aC] at jy;refine bW ?_
     exact bn.mk (j+1) I ⟨au,fun i z aQ bO=>by
      rcases Nat.lt_succ_iff_lt_or_eq.1 aQ with aQ|rfl
      ·exact an i z aQ bO
      ·rw [ab] at bO;cases bO;exact aC⟩ ca aX mO
  ·have cg:([x].map ak.bK)[0]? = some (.agg x.cells):=by rw [← ak.bX];rfl
   have ab:=ak.hV (l:=f.kids) (x:=x) kR;have i1:=a1 x ag (ka lR kR);rw [U,if_neg ag,if_pos C,ad,wX l v 0 [x] x C] at gh;rw [gh];unfold cS at *;rw [ak.bX] at i1 ⊢;unfold ak.cells at cg i1 ⊢;rw [U,ad];refine bW ?_;exact bl I
  ·have cg:([x,y].map ak.bK)[0]? = some (.agg x.cells):=by rw [← ak.bX];rfl
   have bY:([x,y].map ak.bK)[1]? = some (.agg y.cells):=by rw [← ak.bX];rfl
   have ab:=ak.hV (l:=f.kids) (x:=x) kR;have ay:=ak.hV (l:=f.kids) (x:=y) rG;have i1:=a1 x ag (ka lR kR);have i2:=a1 y ag (ka lR rG);rw [ad,wX l v 0 [x,y] x C,wX l v 1 [x,y] y C] at gh;unfold cS at *;rw [ak.bX] at i1 i2 ⊢;unfold ak.cells at cg bY i1 i2 ⊢;rw [ad];rcases U with U|U
   all_goals
    rw [U] at gh ⊢;cases uz:o1 l v x with
    | true=>
     rw [uz] at i1 gh;simp only [Bool.true_and,Bool.true_or] at gh;simp at gh;rw [gh];refine bW ?_;exact bl I
    | false=>
     rw [uz] at i1 gh;simp at gh;rw [gh];refine bW ?_;exact bl I
theorem Pu (p:bP) (aD:fj p) (db:gy p=true) (n:Int) (e5:(cK p n).length≤7) (v:Nat) (av:v<2^63):aR Tryz.prog 83 [cA p,.int .i64 n,.int .i64 (v:Int)] (bf (ds p n (cK p n) v)):=by
 have aq:=bA;obtain ⟨tp,NY⟩:=uT db;have U:=Em p aD db n;have dg:=(Ih db n).1;have ad:=fun f h=>aas (b9 p) (cK p n) e5 dg v av f.size f (Nat.le_refl _) h
 generalize cK p n=l at *;refine aR.bh ai Tryz.func83 C C fun s I=>?_
 unfold cA cL bf cS at *;refine bW ?_;refine ae.h7 I 3 1 0 fun I=>?_
 refine ae.b4 [1,2,3,7] C I (σ:=Nat×List Int×bL) (fun q=>[(9,.int .i64 (q.1:Int)),(8,.aA 1 (q.2.1.map ba) q.2.2)]) (fun q=>[(q.2.2,.row 3 1 q.2.1.length)]) (fun q=>q.1≤p.methods.length∧q.2.1.length≤q.1∧ds p n l v=q.2.1++pU n l v q.1 (p.methods.drop q.1)) (fun q=>p.methods.length-q.1) (0,[],.nil)
  ⟨zero_le _,Nat.le_refl _,rfl⟩ ⟨⟨_,rfl,aL⟩,⟨_,rfl,aS.nil gW⟩,trivial⟩ (aH.dq _) ?_
 rintro ⟨j,out,gf⟩ ⟨aK,gn,an⟩ I;simp only at aK gn an I ⊢;refine b7 ?_;refine ae.cond C (fun au=>?_) (fun aV=>?_);rotate_left
 ·have aV:j=p.methods.length:=by simp at aV;omega
  rw [ep ag,pU,append_nil] at an;rw [an];refine dN ?_;exact Fin.cx I C aS.bb
 have au:j<p.methods.length:=by simpa using au
 obtain ⟨m,ab,bJ⟩:=b1 (f:=ll) au;have fW:=mem_of_getElem? ab;rw [drop_cons ab,pU] at an;unfold ll nn at bJ;by_cases aw:m.gen=n
 ·have cX:=ad m.fact (rA _ _ _ _ (Bl db fW))
  rw [ak.bX] at cX;unfold ak.cells at cX;rw [aw] at bJ an;rw [show decide (n=n)=true by simp,Bool.true_and] at an;refine dF ?_;refine aa.de 28 C a' ?_;cases mx:o1 l v m.fact with
  | true=>
   rw [mx] at cX;rw [mx,if_pos C] at an;refine c1 ?_;refine aa.gb ai I C C C C C C C en C C C C C C C C aY hi j9 ag (fun bT I=>?_);refine fG ?_;exact bn.mk (j+1,out++[(j:Int)],.own bT) I ⟨au,by simp;omega,by rw [an];simp⟩ xO (by show aH _ [(_,.row _ _ (out++[(j:Int)]).length)] _;rw [length_append];exact aH.dq _) oc
  | false=>
   rw [mx] at cX;rw [mx,if_neg a'] at an;refine bW ?_;exact bn.mk (j+1,out,gf) I ⟨au,by show out.length≤j+1;omega,an⟩ ca (aH.dq _) oc
 ·rw [show decide (m.gen=n)=false by simpa using aw,Bool.false_and,if_neg a'] at an
  refine dF ?_;refine aa.cY 28 C (by simpa using aw) ?_;refine bC ?_;exact bn.mk (j+1,out,gf) I ⟨au,by show out.length≤j+1;omega,an⟩ ca (aH.dq _) oc
theorem Ev (p:bP) (aD:fj p) (n:Int):aR Tryz.prog 64 [cA p,.int .i64 n] (sa p n):=by
 have aq:=bA;refine aR.bh ai Tryz.func64 C C fun s I=>?_
 have U:=VT p aD;have ad:=aar p n;have al:=fun h=>Em p aD h n
 have he:eY p n=if gy p&&o0 p n then (if (cK p n).length≤7 then 0 else 3) else 2:=rfl
 unfold sa;cases db:gy p with
 | false=>
  rw [db] at U;rw [db,Bool.false_and,if_neg a'] at he;rw [he,if_neg dZ];unfold cA cL at *;refine bW ?_;exact bl I
 | true=>
 rw [db] at U;rw [db,Bool.true_and] at he;cases Ew:o0 p n with
 | false=>
  rw [Ew] at ad;rw [Ew,if_neg a'] at he;rw [he,if_neg dZ];unfold cA cL at *;refine bW ?_;exact bl I
 | true=>
 rw [Ew] at ad;rw [Ew,if_pos C] at he;have al:=al db;unfold cA cL cS at *;refine bW ?_;refine ae.cond C (fun h=>?_) (fun h=>?_)
 ·rw [if_neg (by simp at h;omega)] at he
  rw [he,if_neg dZ];refine gv ?_;exact bl I
 ·rw [if_pos (by simp at h;omega)] at he
  rw [he,if_pos C];refine bC ?_;exact bl I
theorem aat (p:bP) (aD:fj p) (n:Int):aR Tryz.prog 26 [cA p,.int .i64 n] (sa p n):=by
 have aq:=bA;refine aR.bh ai Tryz.func26 C C fun s I=>?_
 have U:=Ev p aD n;unfold sa at *;unfold cA cL at *;refine bW ?_;exact bl I
theorem aau (p:bP) (aD:fj p) (n:Int):aR Tryz.prog 28 [cA p,.int .i64 n] (yN p n):=by
 have aq:=bA;refine aR.bh ai Tryz.func28 C C fun s I=>?_
 have U:=Ev p aD n;unfold sa at U;unfold yN;by_cases he:eY p n=0
 ·obtain ⟨db,e5,dg,eF,fV⟩:=sc he
  have ad:=Pt p aD db n e5;rw [he,if_pos C] at U;rw [he,if_pos C];unfold cA cL cS at *;refine bW ?_;exact bl I
 ·rw [if_neg he] at U ⊢
  unfold cA cL at *;refine bW ?_;refine ae.cond C (fun _=>?_) (fun h=>absurd fD he);refine gv ?_;exact bl I
theorem aav (p:bP) (aD:fj p) (n v:Int):aR Tryz.prog 30 [cA p,.int .i64 n,.int .i64 v] (yO p n v):=by
 have aq:=bA;refine aR.bh ai Tryz.func30 C C fun s I=>?_
 have U:=Ev p aD n;have hm:sb p n v=if eY p n=0 then (if Bv p n v then 0 else 5) else eY p n:=rfl
 unfold sa at U;unfold yO;by_cases he:eY p n=0;rotate_left
 ·rw [if_neg he] at U hm
  rw [hm,if_neg he];unfold cA cL at *;refine bW ?_;refine ae.cond C (fun _=>?_) (fun h=>absurd fD he);refine gv ?_;exact bl I
 obtain ⟨db,e5,dg,eF,fV⟩:=sc he;have ts:2^(cK p n).length≤2^7:=pow_le_pow_right ag e5;rw [if_pos he] at hm;rw [he,if_pos C] at U;have yX:Bv p n v=(decide (0≤v)&&(decide (v<((2^(cK p n).length:Nat):Int))&&lV (b9 p) (cK p n) v.toNat)):=rfl;have ad:=fun u hu=>Pq p aD db (cK p n) e5 dg u hu
 have al:=fun u hu=>Pu p aD db n e5 u hu
 unfold cA cL cS at *;refine bW ?_;by_cases g1:v<0
 ·refine aa.de 21 C (decide_eq_true g1) ?_
  rw [yX,show decide (0≤v)=false by simp;omega,Bool.false_and,if_neg a'] at hm;rw [hm,if_neg a'];refine eh ?_;exact bl I
 refine aa.cY 21 C (decide_eq_false g1) ?_;obtain ⟨u,rfl⟩:∃ u:Nat,v=u:=⟨v.toNat,by omega⟩;rw [decide_eq_true (Int.natCast_nonneg u),Bool.true_and,toNat_natCast] at yX;rw [toNat_natCast];refine dy ?_;refine aa.shl ((2^(cK p n).length:Nat):Int) C C C C C C ag (by rw [length_map];exact Bu e5) ?_;refine dy ?_;by_cases g2:(u:Int)<((2^(cK p n).length:Nat):Int);rotate_left
 ·refine aa.de 28 C (decide_eq_true (Int.not_lt.1 g2)) ?_
  rw [yX,decide_eq_false g2,Bool.false_and,if_neg a'] at hm;rw [hm,if_neg a'];refine eh ?_;exact bl I
 refine aa.cY 28 C (decide_eq_false (Int.not_le.2 g2)) ?_;have g3:u<2^(cK p n).length:=Int.ofNat_lt.1 g2;rw [decide_eq_true g2,Bool.true_and] at yX;have ad:=ad u ag;have al:=al u ag;cases aC:lV (b9 p) (cK p n) u with
 | false=>
  rw [aC] at ad;rw [yX,aC,if_neg a'] at hm;rw [hm,if_neg a'];refine bW ?_;exact bl I
 | true=>
  rw [aC] at ad;rw [yX,aC,if_pos C] at hm;rw [hm,if_pos C];refine c1 ?_;exact bl I
theorem D5 (f:ak):fs f f=true:=by unfold fs;simp
theorem Pv (w:bx) (l:List ak) (aB:iI w l) (az:l.length<bz):aR Tryz.prog 31 [cS l,cS l] (.bool true):=by
 have aq:=bA;refine aR.bh ai Tryz.func31 C C fun s I=>?_
 unfold cS;refine b7 ?_;refine ae.cond C (fun h=>by simp at h) (fun _=>?_);refine jb ?_;refine ae.b4 [0,1] C I (σ:=Nat) (fun j=>[(5,.int .i64 (j:Int))]) (fun _=>[]) (fun j=>j≤l.length) (fun j=>l.length-j) 0 (zero_le _) (cq C) aX ?_;rintro j aK I
 try simp only at aK I ⊢
 refine b7 ?_;refine ae.cond C (fun au=>?_) (fun aV=>?_);rotate_left
 ·refine dN ?_
  exact bl I
 have au:j<l.length:=by simpa using au
 obtain ⟨x,ab,bJ⟩:=b1 (f:=ak.bK) au;have tw:=aB x (mem_of_getElem? ab);have Pw:=tr tw.1 tw.2;have GG:=q6 tw.1 tw.2;have jy:=IG x x Pw Pw ag ag;rw [D5] at jy;rw [ak.bX] at bJ jy;unfold ak.cells at bJ jy;refine bW ?_;exact bn.mk (j+1) I au ca aX mO
theorem abB (p:bP) (aD:fj p) (n v:Int):aR Tryz.prog 6 [cA p,.int .i64 n,.int .i64 v] (.bool true):=by
 have aq:=bA;have dG:=OO ();have dW:=YQ p aD n;have a2:=aat p aD n;have h3:=Ou p aD n;have dx:=aau p aD n;have c4:=Ir p aD n v;have dd:=aav p aD n v;have s1:aR Tryz.prog 31 [if eY p n=0 then cS (cK p n) else .aA 0 [] .nil,if eY p n=0 then cS (cK p n) else .aA 0 [] .nil] (.bool true):=by
  by_cases he:eY p n=0
  ·obtain ⟨db,e5,dg,eF,fV⟩:=sc he
   rw [if_pos he];exact Pv (b9 p) _ dg ag
  ·rw [if_neg he]
   exact aR.args (.cons (aS.empty (sz':=6)) (.one aS.empty)) (Pv ⟨[],[]⟩ [] (fun x ab=>by cases ab) (by simp [aq]))
 have s2:∀ l:List Int,l.length<bz→aR Tryz.prog 24 [bf l,bf l] (.bool true):=fun l aB=>by
  have:=s3 l l aB aB;rwa [show (l==l)=true from beq_iff_eq.2 C] at this
 have CP:aR Tryz.prog 24 [.aA 0 [] .nil,.aA 0 [] .nil] (.bool true):=aR.args (.cons (aS.empty (sz':=1)) (.one aS.empty)) (s2 [] (by simp [aq]));have OP:aR Tryz.prog 24 [if eY p n=0 then .aA 1 (hQ (ik (b9 p) (cK p n))) .bb else .aA 0 [] .nil,if eY p n=0 then .aA 1 (hQ (ik (b9 p) (cK p n))) .bb else .aA 0 [] .nil] (.bool true):=by
  by_cases he:eY p n=0
  ·obtain ⟨db,e5,dg,eF,fV⟩:=sc he
   have ts:2^(cK p n).length≤2^7:=pow_le_pow_right ag e5;have fw:=D9 (b9 p) (cK p n);rw [if_pos he];have e:af.aA 1 (hQ (ik (b9 p) (cK p n))) .bb=bf ((ik (b9 p) (cK p n)).map fun v:Nat=>(v:Int)):=by
    unfold hQ bf ba;rw [List.map_map];rfl
   rw [e];exact s2 _ tc
  ·rw [if_neg he];exact CP
 have ack:aR Tryz.prog 24 [if sb p n v=0 then bf (ds p n (cK p n) v.toNat) else .aA 0 [] .nil,if sb p n v=0 then bf (ds p n (cK p n) v.toNat) else .aA 0 [] .nil] (.bool true):=by
  by_cases he:sb p n v=0
  ·rw [if_pos he]
   have:=yL n (cK p n) v.toNat p.methods 0;have hm:=aD.Ay;exact s2 _ (by show (pU n (cK p n) v.toNat 0 p.methods).length<bz;omega)
  ·rw [if_neg he];exact CP
 unfold sa yN yO at *;generalize (if eY p n=0 then cS (cK p n) else .aA 0 [] .nil)=acm at *;generalize (if eY p n=0 then af.aA 1 (hQ (ik (b9 p) (cK p n))) .bb else .aA 0 [] .nil)=aci at *;generalize (if sb p n v=0 then bf (ds p n (cK p n) v.toNat) else .aA 0 [] .nil)=ab4 at *;refine aR.bh ai Tryz.func6 C C fun s I=>?_
 unfold cA cL at *;refine bW ?_;refine aa.de 65 C a' ?_;refine c1 ?_;refine aa.de 75 C a' ?_;refine c1 ?_;refine aa.de 85 C a' ?_;refine c1 ?_;exact bl I
theorem aaw (g:List b0) (aw:gI g=true) (v:Nat) (av:v<2^63):aR Tryz.prog 77 [fO g,.int .i64 (v:Int)] (.cp [.int .i64 (leads g v).1,.int .i64 ((leads g v).2:Int)]):=by
 have aq:=bA;refine aR.bh ai Tryz.func77 C C fun s I=>?_
 obtain ⟨lz,eS⟩:=wj aw;have n1:=fun i (aQ:i<64)=>IH v i av aQ
 unfold fO;refine gm ?_;refine ae.b4 [0,1] C I (σ:=Nat×Nat×Nat) (fun q=>[(6,.int .i64 (q.1:Int)),(7,.int .i64 (q.2.1:Int))]) (fun _=>[]) (fun q=>q.1<g.length∧leads g v=uM g v q.2.2 (q.1:Int) q.2.1∧g.length≤q.1+q.2.2∧q.2.1≤q.1) (fun q=>g.length-q.1) (0,0,g.length) ⟨lz,rfl,by simp,Nat.le_refl _⟩ (cq C) aX ?_;rintro ⟨j,n,f⟩ ⟨aK,an,a6,az⟩ I
 try simp only at aK an a6 az I ⊢
 obtain ⟨x,ab,bJ⟩:=b1 (f:=eW) aK;have aU:=uq aw ab;obtain ⟨f,rfl⟩:∃ k,f=k+1:=⟨f-1,by omega⟩;rw [uM,toNat_natCast,show g.getD j default=x by rw [getD_eq_getElem?_getD,ab];rfl] at an;unfold eW gZ bf at bJ;refine dF ?_;refine ae.cond C (fun a7=>?_) (fun a7=>?_);rotate_left
 ·rw [if_neg wE] at an
  rw [an];refine dN ?_;exact bl I
 have a7:x.atom≥0:=by simpa using a7
 rw [if_pos a7] at an;have ez:=(kc ag).1 aU;obtain ⟨a,A1⟩:∃ a:Nat,x.atom=a:=⟨x.atom.toNat,by omega⟩;rw [A1,toNat_natCast] at an;rw [A1] at bJ;have n1:=n1 a ag;cases aC:v.testBit a with
 | true=>
  rw [aC] at n1;rw [aC,if_pos C] at an;obtain ⟨y,ay⟩:∃ y:Nat,x.yes=y:=⟨x.yes.toNat,by omega⟩;rw [ay] at an bJ;refine bW ?_;exact bn.mk (y,n+1,f) I ⟨by show y<g.length;omega,by rw [an],by show g.length≤y+f;omega,by show n+1≤y;omega⟩ ca aX Dp
 | false=>
  rw [aC] at n1;rw [aC,if_neg a'] at an;obtain ⟨y,ay⟩:∃ y:Nat,x.no=y:=⟨x.no.toNat,by omega⟩;rw [ay] at an bJ;refine bW ?_;exact bn.mk (y,n+1,f) I ⟨by show y<g.length;omega,by rw [an],by show g.length≤y+f;omega,by show n+1≤y;omega⟩ ca aX Dp
theorem aax (p:bP) (aD:fj p) (n:Int) (he:eY p n=0) (g:List b0) (aw:gI g=true):aR Tryz.prog 76 [cA p,.int .i64 n,fO g] (.bool (o2 p n g)):=by
 have aq:=bA;refine aR.bh ai Tryz.func76 C C fun s I=>?_
 obtain ⟨db,e5,dg,eF,fV⟩:=sc he;obtain ⟨tp,-⟩:=uT db;obtain ⟨jF,lR⟩:=wj aw;have ts:2^(cK p n).length≤2^7:=pow_le_pow_right ag e5;have fw:=D9 (b9 p) (cK p n);have aay:∀ v∈ik (b9 p) (cK p n),v<2^63:=fun v av=>by
  have:=mem_range.1 (mem_filter.1 av).1;omega
 have U:=Em p aD db n;have ad:=Pt p aD db n e5;have al:=fun v av=>aaw g aw v av
 have bd:=fun v av=>Pu p aD db n e5 v av
 have bD:=fun v=>Hy aw v
 have dV:o2 p n g=(g.all (fun x=>decide (x.atom<((cK p n).length:Int)))&&(ik (b9 p) (cK p n)).all fun v=>(g.getD (leads g v).1.toNat default).ms==ds p n (cK p n) v):=rfl;have aaz:=fun v=>yL n (cK p n) v p.methods 0
 rw [dV];generalize ik (b9 p) (cK p n)=vs at *;generalize cK p n=l at *;unfold cA cL fO cS hQ bf at *;refine bW ?_;refine ae.b4 [1,2,3,7] C I (σ:=Nat) (fun j=>[(8,.int .i64 (j:Int))]) (fun _=>[]) (fun j=>j≤g.length∧(g.all fun x=>decide (x.atom<(l.length:Int)))=(g.drop j).all fun x=>decide (x.atom<(l.length:Int))) (fun j=>g.length-j) 0 ⟨zero_le _,rfl⟩ (cq C) aX ?_;rintro j ⟨aK,an⟩ I
 try simp only at aK an I ⊢
 refine b7 ?_;refine ae.cond C (fun au=>?_) (fun aV=>?_)
 ·have au:j<g.length:=by simpa using au
  obtain ⟨x,ab,bJ⟩:=b1 (f:=eW) au;rw [drop_cons ab,all_cons] at an;unfold eW gZ bf at bJ;refine dF ?_;refine ae.cond C (fun h=>?_) (fun h=>?_)
  ·rw [show decide (x.atom<(l.length:Int))=false by simp at h ⊢;omega,Bool.false_and] at an
   rw [an,Bool.false_and];refine ja ?_;exact bl I
  ·rw [show decide (x.atom<(l.length:Int))=true by simp at h ⊢;omega,Bool.true_and] at an
   refine gd ?_;exact bn.mk (j+1) I ⟨au,an⟩ ca aX sO
 have aV:j=g.length:=by simp at aV;omega
 rw [ep ag,all_nil] at an;rw [an,Bool.true_and];refine bW ?_;refine ae.b4 [1,2,3,9] C I (σ:=Nat) (fun j=>[(10,.int .i64 (j:Int))]) (fun _=>[]) (fun j=>j≤vs.length∧(vs.all fun v=>(g.getD (leads g v).1.toNat default).ms==ds p n l v)=(vs.drop j).all fun v=>(g.getD (leads g v).1.toNat default).ms==ds p n l v) (fun j=>vs.length-j) 0 ⟨zero_le _,rfl⟩ (cq C) aX ?_;rintro j ⟨aK,cy⟩ I
 try simp only at aK cy I ⊢
 refine b7 ?_;refine ae.cond C (fun au=>?_) (fun dr=>?_);rotate_left
 ·have dr:j=vs.length:=by simp at dr;omega
  rw [ep ag,all_nil] at cy;rw [cy];refine dN ?_;exact bl I
 have au:j<vs.length:=by simpa using au
 obtain ⟨v,av,ov⟩:=b1 (f:=fun v:Nat=>af.int .i64 (v:Int)) au;have Px:=aay v (mem_of_getElem? av);have al:=al v Px;have bd:=bd v Px;obtain ⟨k,x,aE,ab,abC⟩:=bD v;have bJ:(g.map eW)[k]? = some (eW x):=by rw [List.getElem?_map,ab];rfl
 have iZ:=OG aw x (mem_of_getElem? ab);have hs:(ds p n l v).length≤16:=Nat.le_trans (aaz v) tp;have gj:=s3 x.ms (ds p n l v) ag ag;have j7:(g.getD (leads g v).1.toNat default).ms=x.ms:=by rw [aE,toNat_natCast,getD_eq_getElem?_getD,ab];rfl
 rw [drop_cons av,all_cons,j7] at cy;rw [aE] at al;unfold eW gZ bf at bJ;unfold bf at gj;cases aC:x.ms==ds p n l v with
 | true=>
  rw [aC] at gj cy;refine bW ?_;exact bn.mk (j+1) I ⟨au,cy⟩ ca aX w1
 | false=>
  rw [aC] at gj cy;rw [cy];refine bW ?_;exact bl I
theorem aaA (p:bP) (aD:fj p) (n:Int) (g:List b0) (aw:g.length<bz) (iZ:∀ x∈g,x.ms.length<bz):aR Tryz.prog 53 [cA p,.int .i64 n,fO g] (.cp [.bool (nv p n g).1,.int .i64 (nv p n g).2]):=by
 have aq:=bA;refine aR.bh ai Tryz.func53 C C fun s I=>?_
 have U:=Ev p aD n;have ad:=TG g aw iZ;have al:=fun he a6=>aax p aD n he g a6
 have hm:nv p n g=if eY p n=2 || !gI g then (false,2) else if eY p n=0 then (o2 p n g,0) else (false,eY p n):=rfl
 unfold sa at U;generalize (if eY p n=0 then cS (cK p n) else .aA 0 [] .nil)=acm at U;unfold cA cL fO at *;rcases Oy p n with e|e|e
 ·rw [e] at U hm
  cases hY:gI g with
  | false=>
   rw [hY] at ad hm;have hm:nv p n g=(false,2):=hm;rw [hm];refine bW ?_;exact bl I
  | true=>
   rw [hY] at ad hm;have hm:nv p n g=(o2 p n g,0):=hm;have al:=al e hY;rw [hm];refine bW ?_;exact bl I
 ·rw [e] at U hm
  have hm:nv p n g=(false,2):=hm;rw [hm];refine bW ?_;exact bl I
 ·rw [e] at U hm
  cases hY:gI g with
  | false=>
   rw [hY] at ad hm;have hm:nv p n g=(false,2):=hm;rw [hm];refine bW ?_;exact bl I
  | true=>
   rw [hY] at ad hm;have hm:nv p n g=(false,3):=hm;rw [hm];refine bW ?_;exact bl I
theorem abD (p:bP) (aD:fj p) (n:Int) (g:List b0) (aw:g.length<bz):aR Tryz.prog 10 [cA p,.int .i64 n,fO g] (.bool true):=by
 have aq:=bA;refine aR.bh ai Tryz.func10 C C fun s I=>?_
 have dG:=OO ();have bt:=ZS g aw;cases aB:Ej g with
 | true=>
  rw [aB] at bt;unfold cA cL fO at *;refine bW ?_;exact bl I
 | false=>
  rw [aB] at bt;unfold Ej at aB;rw [or_eq_false_iff,any_eq_false] at aB;have U:=YZ p aD n g aw
  have ad:=aaA p aD n g aw (fun x ab=>by
   have:=aB.2 x ab
   simp at this;omega)
  unfold cA cL fO at *;refine bW ?_;refine aa.de 31 C a' ?_;refine dy ?_;refine aa.de 36 C a' ?_;refine c1 ?_;exact bl I
def lr (w:World):bR:=fun b _=>b<w.heap.size
theorem aaB (w:World):dm w (lr w) (fun _=>none):=⟨(fun _ _ h=>by cases h),fun _ _ h=>h⟩
theorem add_add (a:Addr) (x y:Nat):(a.add x).add y=a.add (x+y):=by
 unfold Addr.add;by_cases ab:x=0
 ·subst ab;simp
 ·by_cases ay:y=0
  ·subst ay;simp [ab]
  ·simp [ab,ay,Nat.add_assoc]
theorem aaC {w:World} {a:Addr} {v:Value} (h:w.cell? a=some v):a.spot=none∧a.block<w.heap.size:=by
 unfold World.cell? at h;split at h
 ·rename_i c _ _ aq
  refine ⟨?_,(Array.getElem?_eq_some_iff.1 aq).1⟩;cases ar:a.spot with
  | none=>rfl
  | some s=>rw [ar] at h;simp at h
 ·cases h
theorem Py {w:World} {a:Addr} {n:Nat} {cs:List Value} (h:w.cells? 0 a n=some cs):cs.length=n∧∀ i v,cs[i]? = some v→w.cell? (a.add i)=some v:=by
 unfold World.cells? at h;rw [if_pos (zero_le _)] at h;refine ⟨by simpa using mapM_some_length h,fun i v av=>?_⟩;have aQ:i<n:=by
  have:=mapM_some_length h;rw [length_range] at this;rw [← this];exact (List.getElem?_eq_some_iff.1 av).1
 rw [mapM_some_get h i i (by rw [List.getElem?_range aQ])];exact av
section
variable {H:Type} {enc:TypeId×Value→H} {w:World}
theorem Ex {sz:Nat}:∀ {vs:List Value},(∀ v∈vs,v.cells.size=sz)→(flat vs).length=vs.length*sz
  | [],_=>by simp [flat]
  | v::vs,h=>by
    have:=Ex (vs:=vs) (fun u hu=>h u (mem_cons_of_mem _ hu));have av:=h v mem_cons_self;simp only [flat,List.flatMap_cons,length_append,length_cons] at this ⊢;rw [this,Array.length_toList,av,Nat.add_mul,Nat.one_mul,Nat.add_comm]
theorem bG.j1 {p:bR}:∀ {vs us:List Value} {xs ys:List af},bG w p vs xs→bG w p us ys→bG w p (vs++us) (xs++ys)
 | _,_,_,_,.nil,h=>h
 | _,_,_,_,.cons v x vs xs h t,k => .cons _ _ _ _ h (bG.j1 t k)
theorem aaD (l r:List (DataW H)):Rows.uptoBulkAll (l++r)=Rows.uptoBulkAll l+Rows.uptoBulkAll r:=by
 induction l with
 | nil=>simp [Rows.uptoBulkAll]
 | cons x l a1=>simp only [cons_append,Rows.uptoBulkAll,a1];omega
theorem Pz {α:Type} {t e:TypeId} {sz fuel:Nat} {cs:List Value} {x:DataW H×List MemPlace} (f:α→af) (m:α→Nat) (aM : Tryz.prog.underlying t=some (.slice e)) (aC : Tryz.prog.cellsOf e=sz) (b':0<sz)
  (dJ:∀ n cs y,n<fuel→DataW.trod enc Tryz.prog w 0 (fun _=>true) true n e cs=some y→cs.length=sz→∃ (a:α) (v:Value),v.cells.toList=cs∧Rel w (lr w) v (f a)∧m a≤Rows.uptoBulk y.1)
  (h:DataW.trod enc Tryz.prog w 0 (fun _=>true) true fuel t cs=some x) :
  ∃ (c:Value) (l:List α),cs=[c]∧Rel w (lr w) c (.aA sz (l.map f) .bb)∧(l.map m).sum+1≤Rows.uptoBulk x.1:=by
 rcases DataW.trod_slice aM h with ⟨rfl,rfl⟩|⟨a,len,cap,elems,rest,n,rfl,rfl,rfl,aq,aB,hm,hlen,PA,dA,G5⟩
 ·exact ⟨_,[],rfl,.hR _ _ a',by simp [Rows.uptoBulk]⟩
 ·rw [aC] at PA dA
  have key:∀ k,k≤len→∃ (l:List α) (vs:List Value),l.length=k∧bG w (lr w) vs (l.map f)∧(∀ v∈vs,v.cells.size=sz)∧(∀ i u,(flat vs)[i]? = some u→w.cell? (a.add i)=some u) ∧
    (l.map m).sum≤Rows.uptoBulkAll ((elems.take k).map (·.1)):=by
   intro k
   induction k with
   | zero=>intro _;exact ⟨[],[],rfl,.nil,by simp,by simp [flat],by simp⟩
   | succ k a1=>
    intro aE;obtain ⟨l,vs,U,ad,al,bd,bD⟩:=a1 ag;have Ey:elems[k]? = some (elems[k]' ag):=getElem?_eq_getElem ag;have aq:=PA k ag;rw [Ey,Option.bind_eq_some_iff] at aq;obtain ⟨cs',hy,ay⟩:=aq;obtain ⟨g1,g2⟩:=Py hy;obtain ⟨c',v,cg,bY,eR⟩:=dJ n cs' _ (lt_succ_self n) ay g1;have eH:vs.length=k:=by rw [ad.length,length_map,U]
    refine ⟨l++[c'],vs++[v],by simp [U],?_,?_,?_,?_⟩
    ·rw [map_append];exact bG.j1 ad (.cons _ _ _ _ bY .nil)
    ·intro u hu
     rcases mem_append.1 hu with hu|hu
     ·exact al u hu
     ·simp only [mem_singleton] at hu
      subst hu;rw [← Array.length_toList,cg,g1]
    ·intro i u hu
     have a6:flat (vs++[v])=flat vs++cs':=by simp [flat,cg]
     rw [a6] at hu;by_cases aQ:i<(flat vs).length
     ·rw [List.getElem?_append_left aQ] at hu;exact bd i u hu
     ·rw [List.getElem?_append_right ag,Ex al,eH] at hu
      have:=g2 _ _ hu;rw [add_add] at this;rw [Ex al,eH] at aQ;rwa [show k*sz+(i-k*sz)=i by omega] at this
    ·rw [take_add_one,Ey]
     simp only [Option.toList_some,map_append,map_cons,map_nil,aaD,List.sum_append,sum_cons,List.sum_nil,Rows.uptoBulkAll];omega
  obtain ⟨l,vs,U,ad,al,bd,bD⟩:=key len (Nat.le_refl _);have eH:vs.length=len:=by rw [ad.length,length_map,U]
  refine ⟨_,l,rfl,?_,?_⟩
  ·have m':maxLen=9223372036854775807:=rfl
   by_cases kl:cap=0
   ·have tO:len=0:=by omega
    subst tO;subst kl;have:l=[]:=List.eq_nil_of_length_eq_zero U;subst this;exact .im a _ _ (.inl C)
   ·have jz:∃ v,w.cell? a=some v:=by
     by_cases tO:len=0
     ·obtain ⟨aF,jj⟩:=dA rfl
      have Ey:rest[0]? = some (rest[0]' ag):=getElem?_eq_getElem ag;have:=jj 0 ag;rw [Ey,Option.bind_eq_some_iff] at this;obtain ⟨cs',hy,-⟩:=this;obtain ⟨g1,g2⟩:=Py hy;have:=g2 0 _ (getElem?_eq_getElem ag);rw [tO,add_add] at this;simp only [Nat.add_zero,Nat.zero_mul,Addr.add,if_true] at this;exact ⟨_,this⟩
     ·have:=bd 0 _ (getElem?_eq_getElem (by rw [Ex al,eH];exact Nat.mul_pos ag b'))
      simp only [Addr.add,if_true] at this;exact ⟨_,this⟩
    obtain ⟨v,av⟩:=jz;obtain ⟨ar,au⟩:=aaC av;obtain ⟨g,off,spot⟩:=a;simp only at ar au;subst ar;refine .aA g off len cap sz vs _ .bb a' (by rw [length_map,U]) (fun i u hu=>⟨au,?_⟩) ad al ag aB a' a';have:=bd i u hu;rwa [k5] at this
  ·simp only [Rows.uptoBulk]
   rw [List.take_of_length_le ag] at bD;omega
theorem trod_int {t:TypeId} {fuel:Nat} {cs:List Value} {y:DataW H×List MemPlace} (aM : Tryz.prog.underlying t=some (.int .i64)) (h:DataW.trod enc Tryz.prog w 0 (fun _=>true) true fuel t cs=some y) :
  ∃ n:Int,bG w (lr w) cs [.int .i64 n]∧1≤Rows.uptoBulk y.1:=by
 obtain ⟨n,rfl,rfl,-⟩:=DataW.trod_int aM h;exact ⟨n,.cons _ _ _ _ (.int _ _) .nil,by simp [Rows.uptoBulk]⟩
theorem yY {α:Type} {t e:TypeId} {sz fuel:Nat} {cs:List Value} {x:DataW H×List MemPlace} (f:α→List af) (m:α→Nat) (aM : Tryz.prog.underlying t=some (.slice e)) (aC : Tryz.prog.cellsOf e=sz) (b':0<sz)
  (dJ:∀ n cs y,n<fuel→DataW.trod enc Tryz.prog w 0 (fun _=>true) true n e cs=some y→∃ a:α,bG w (lr w) cs (f a)∧m a≤Rows.uptoBulk y.1)
  (h:DataW.trod enc Tryz.prog w 0 (fun _=>true) true fuel t cs=some x) :
  ∃ l:List α,bG w (lr w) cs [.aA sz (l.map fun a => .agg (f a)) .bb]∧(l.map m).sum+1≤Rows.uptoBulk x.1:=by
 obtain ⟨c,l,rfl,U,ad⟩:=Pz (fun a=>af.agg (f a)) m aM aC b' (fun n cs y az ay _=>by
  obtain ⟨a,g1,g2⟩:=dJ n cs y az ay
  exact ⟨a,.agg cs.toArray,by simp [Value.cells],.agg _ _ (by simpa using g1),g2⟩) h
 exact ⟨l,.cons _ _ _ _ U .nil,ad⟩
theorem xh (l:List (DataW H)):Rows.uptoBulk (.agg l)=Rows.uptoBulkAll l+1:=by simp [Rows.uptoBulk]
def hl (acp:String) (t:TypeId) (off aaE:Nat):Field:={ name:=acp,type:=t,offset:=off,embedded:=false,tag := "", pkgPath := "", byteOffset:=aaE }
theorem aaF {t:TypeId} {fuel:Nat} {cs:List Value} {y:DataW H×List MemPlace} (aM : Tryz.prog.underlying t=some (.int .i64)) (h:DataW.trod enc Tryz.prog w 0 (fun _=>true) true fuel t cs=some y) :
  ∃ (n:Int) (v:Value),v.cells.toList=cs∧Rel w (lr w) v (.int .i64 n)∧1≤Rows.uptoBulk y.1:=by
 obtain ⟨n,rfl,rfl,-⟩:=DataW.trod_int aM h;exact ⟨n,.int .i64 n,rfl,.int _ _,by simp [Rows.uptoBulk]⟩
theorem PB:∀ l:List Int,(l.map fun _=>1).sum=l.length
 | []=>rfl
 | _::r=>by rw [map_cons,sum_cons,PB r,length_cons];omega
theorem yZ {fuel:Nat} {cs:List Value} {x:DataW H×List MemPlace} (h:DataW.trod enc Tryz.prog w 0 (fun _=>true) true fuel 23 cs=some x) :
  ∃ l:List Int,bG w (lr w) cs [bf l]∧l.length+1≤Rows.uptoBulk x.1:=by
 obtain ⟨c,l,rfl,U,ad⟩:=Pz (sz:=1) (fun n=>af.int .i64 n) (fun _=>1) Tryz.underlying23 fY ag (fun _ _ _ _ h _=>aaF Tryz.underlying3 h) h;rw [PB] at ad;exact ⟨l,.cons _ _ _ _ U .nil,ad⟩
theorem PC {α:Type}:∀ l:List α,l.length≤(l.map fun _=>1).sum
 | []=>Nat.le_refl _
 | _::r=>by rw [map_cons,sum_cons,length_cons];have:=PC r;omega
def b0.weight (x:b0):Nat:=x.ms.length+1
theorem aaG (fuel:Nat) (cs:List Value) (y:DataW H×List MemPlace) (h:DataW.trod enc Tryz.prog w 0 (fun _=>true) true fuel 69 cs=some y):∃ x:b0,bG w (lr w) cs (gZ x)∧b0.weight x≤Rows.uptoBulk y.1:=by
 obtain ⟨xs,n,rfl,rfl,aB,hlen,a6⟩:=DataW.trod_struct Tryz.underlying69 h;have PD : Tryz.prog.cellsOf 69 = 4:=by kernel_rfl
 have q' : Tryz.prog.cellsOf 3 = 1:=by kernel_rfl
 have aaH : Tryz.prog.cellsOf 23 = 1:=by kernel_rfl
 rw [PD] at aB
 match cs,aB,xs,hlen with
 | [v0,v1,v2,v3],_,[y0,y1,BJ,IU],_=>
  have bt:=a6 0 (hl "Atom" 3 0 0) C;have U:=a6 1 (hl "No" 3 1 8) C;have ad:=a6 2 (hl "Yes" 3 2 16) C;have al:=a6 3 (hl "Methods" 23 3 24) C;simp only [hl,PD,q',aaH,drop,take] at bt U ad al;obtain ⟨a,g0,vp⟩:=trod_int Tryz.underlying3 bt;obtain ⟨no,g1,h3⟩:=trod_int Tryz.underlying3 U;obtain ⟨IV,g2,dx⟩:=trod_int Tryz.underlying3 ad;obtain ⟨ms,g3,m9⟩:=yZ al;refine ⟨⟨a,no,IV,ms⟩,?_,?_⟩
  ·have:gZ ⟨a,no,IV,ms⟩=[.int .i64 a]++([.int .i64 no]++([.int .i64 IV]++[bf ms])):=rfl
   rw [this];exact bG.j1 (vs:=[v0]) g0 (bG.j1 (vs:=[v1]) g1 (bG.j1 (vs:=[v2]) g2 g3))
  ·simp only [xh,map_cons,map_nil,Rows.uptoBulkAll,b0.weight]
   omega
theorem aaI:∀ g:List b0,g.length≤(g.map b0.weight).sum
 | []=>Nat.le_refl _
 | x::r=>by rw [map_cons,sum_cons,length_cons];have:=aaI r;unfold b0.weight at *;omega
theorem abE {fuel:Nat} {cs:List Value} {x:DataW H×List MemPlace} (h:DataW.trod enc Tryz.prog w 0 (fun _=>true) true fuel 28 cs=some x) :
  ∃ g:List b0,bG w (lr w) cs [fO g]∧(g.map b0.weight).sum+1≤Rows.uptoBulk x.1:=by
 obtain ⟨g,U,ad⟩:=yY (sz:=4) gZ b0.weight Tryz.underlying28 fY ag (fun m cs y _ ay=>aaG m cs y ay) h;exact ⟨g,U,ad⟩
end
end Go.Proofs.YtnafpeohfbglmaaGreat
namespace Go.Proofs.YtnafpeohfbglmaaGreat
open Go.cU Go.ChangeShapes Go.WideShapes Go.ChangeAt Go.RowKit
theorem PE {H:Type} {enc:TypeId×Value→H} {P:Program} {W xi:World} (aB:laidOutB P=true):∀ {gl:List TypeId} {vs:List Value} {cb:List (DataW H)} {ps:List MemPlace} {sp:Nat→Bool},(∀ t∈gl,P.readableRec t=true∧t<P.types.size) →
    DataW.TrodAll enc P W 0 (fun _=>true) true gl vs cb ps→(∀ p∈ps,W.sameAt xi p)→(∀ p∈ps,sp p.block=true)→DataW.TrodAll enc P xi 0 sp true gl vs cb ps
  | [],[],[],_,_,_,h,_,_=>h
  | t::gl,v::vs,d::cb,ps,sp,aM,h,ar,aq=>by
    obtain ⟨p,q,U,ad,rfl⟩:=h;obtain ⟨fp,gB⟩:=aM t mem_cons_self
    exact ⟨p,q,WideElems.Trod_stays aB fp gB U (fun x ab=>ar x (List.mem_append_left _ ab)) (fun x ab=>aq x (List.mem_append_left _ ab)),
      PE aB (fun t cV=>aM t (mem_cons_of_mem _ cV)) ad (fun x ab=>ar x (List.mem_append_right _ ab)) (fun x ab=>aq x (List.mem_append_right _ ab)),rfl⟩
  | [],[],_::_,_,_,_,h,_,_=>h.elim
  | [],_::_,_,_,_,_,h,_,_=>h.elim
  | _::_,[],_,_,_,_,h,_,_=>h.elim
  | _::_,_::_,[],_,_,_,h,_,_=>h.elim
theorem abF {H:Type} {enc:TypeId×Value→H} {f:FuncId} {fn:Func} {spec:ChangeSpec} {W:World} {args:Array Value} {xs:List af} {cb gs:List (DataW H)} {before:List MemPlace}
  (aB:laidOutB Tryz.prog=true) (aD:∀ t∈fn.params.toList,Tryz.prog.readableRec t=true∧t < Tryz.prog.types.size) (aF:fn.resultTypes = #[4]) (av:spec.vars=[])
  (dA:gs=[]→spec.fn H (cb++gs)={ results:=[.lit (.bool true)],args:=cb })
  (gJ:DataW.Whole enc Tryz.prog fn.params.toList spec.vars false W args.toList cb gs before) (eM:bG W (lr W) args.toList xs) (aC:hd Tryz.prog f xs (fun _=>none) (fun o aj=>o = .ret (.bool true)∧aj=fun _=>none)) :
  Calls Tryz.prog f args W fun e xi=>∃ v,e = .returned v∧spec.post enc Tryz.prog fn false true false false W args v xi:=by
 have h:=aC.2 W (lr W) args.toList (aaB W) eM;rw [Array.toArray_toList] at h;refine Calls.mono h fun e xi ⟨cP,o,aj,bj,qa,⟨ah,hz⟩,hle,aE,cc⟩=>?_
 subst ah;cases e with
 | returned v=>
  have aq:Rel xi bj v (.bool true):=qa;cases aq;have PF:Below W.heap.size W xi:=⟨hle.os,hle.tape,hle.output,hle.size,fun k eC=>aE.heap k eC C⟩;have au:=gJ.lt;have aaJ:=gJ;obtain ⟨p,q,vO,IE,rfl,abG,eF⟩:=gJ;rw [av] at IE;obtain ⟨rfl,rfl⟩:=trodVars_none IE;have yI:=dA C;refine ⟨_,rfl,cb,[],_,[],p,[],aaJ,?_,?_,?_,PF.frame _,fun h=>by cases h⟩
  ·rw [yI,aF]
   exact trodAll_cons_mk (shut_bool Tryz.underlying4 _) trodAll_mk0
  ·rw [yI]
   exact PE aB aD vO (fun x ab=>PF.same (au x (by simpa using ab))) (fun x ab=>by simpa using au x (by simpa using ab))
  ·rw [yI,av];exact rfl
 | panicked dB=>exact qa.elim
 | outgrown=>exact qa.elim
theorem abH {P:Program} {W:World} {r:Reach} {b:Nat} {t e:TypeId} {v:Value} (aM:P.underlying t=some (.slice e)) (h:Value.okWide P W r b t v):v.cells = #[v]:=by
 obtain ⟨a,n,c,rfl⟩:=okWide_slice aM h;rfl
theorem abI {P:Program} {W:World} {r:Reach} {b:Nat} {t:TypeId} {gF:Array Field} {v:Value} (aM:P.underlying t=some (.struct gF)) (h:Value.okWide P W r b t v):∃ cs,v = .agg cs:=by
 obtain ⟨cs,U,-⟩:=okWide_struct aM h;exact ⟨cs,U⟩
theorem abJ {w:World} {p:bR} {v:Value} {x:af} (av:v.cells = #[v]) (h:bG w p v.cells.toList [x]):Rel w p v x:=by
 rw [av] at h;cases h with
 | cons _ _ _ _ h _=>exact h
theorem abK {w:World} {p:bR} {v:Value} {xs:List af} (av:∃ cs,v = .agg cs) (h:bG w p v.cells.toList xs):Rel w p v (.agg xs):=by
 obtain ⟨cs,rfl⟩:=av;exact .agg _ _ h
theorem abL {P:Program} {W:World} {r:Reach} {b:Nat} {t:TypeId} {v:Value} {k:IntKind} (aM:P.underlying t=some (.int k)) (h:Value.okWide P W r b t v):v.cells = #[v]:=by
 obtain ⟨n,rfl⟩:=okWide_int aM h;rfl
theorem laidOut:laidOutB Tryz.prog=true:=by kernel_rfl
end Go.Proofs.YtnafpeohfbglmaaGreat
namespace Go.Proofs.YtnafpeohfbglmaaGreat
open Go.cU Go.eb
theorem Ez {α:Type} {m:α→Nat}:∀ {l:List α} {x:α},x∈l→m x≤(l.map m).sum
  | y::r,x,h=>by
    rw [map_cons,sum_cons];rcases List.mem_cons.1 h with rfl|h
    · omega
    · have:=Ez (m:=m) h;omega
mutual
def ak.weight:ak→Nat
 | .mk _ _ p _ _ ks=>p.length+6+ak.weights ks
def ak.weights:List ak→Nat
 | []=>0
 | k::r=>ak.weight k+ak.weights r
end
theorem ak.PG:∀ l:List ak,ak.weights l=(l.map ak.weight).sum
 | []=>rfl
 | k::r=>by rw [ak.weights,ak.PG r];rfl
mutual
theorem ak.PH:∀ f:ak,f.size≤ak.weight f
  | .mk o a p c n ks=>by
    have h:=ak.PI ks;have e:=(ak.mk o a p c n ks).size_eq;have U:(ak.mk o a p c n ks).kids=ks:=rfl;have ad:(ak.mk o a p c n ks).path=p:=rfl;rw [U,ad] at e;rw [ak.weight];omega
theorem ak.PI:∀ l:List ak,ak.hB l≤ak.weights l
  | []=>zero_le _
  | k::r=>by
    have U:=ak.PH k;have ad:=ak.PI r;rw [ak.hB,ak.weights];omega
end
theorem aaK (ks:List ak):(ks.map fun a=>af.agg a.cells)=ks.map ak.bK:=by
 congr 1;funext a;exact (ak.bX a).symm
section
variable {H:Type} {enc:TypeId×Value→H} {w:World}
theorem aaL:∀ (fuel:Nat) (cs:List Value) (y:DataW H×List MemPlace),DataW.trod enc Tryz.prog w 0 (fun _=>true) true fuel 58 cs=some y→∃ e:ak,bG w (lr w) cs (ak.cells e)∧ak.weight e≤Rows.uptoBulk y.1:=by
 intro fuel
 induction fuel using Nat.strongRecOn with
 | _ fuel a1=>
 intro cs y h;obtain ⟨xs,n,rfl,rfl,aB,hlen,a6⟩:=DataW.trod_struct Tryz.underlying58 h;have EA : Tryz.prog.cellsOf 58 = 6:=by kernel_rfl
 have aaM : Tryz.prog.cellsOf 56 = 1:=by kernel_rfl
 have q' : Tryz.prog.cellsOf 3 = 1:=by kernel_rfl
 have xj : Tryz.prog.cellsOf 23 = 1:=by kernel_rfl
 have aaN : Tryz.prog.cellsOf 47 = 1:=by kernel_rfl
 rw [EA] at aB
 match cs,aB,xs,hlen with
 | [v0,v1,v2,v3,v4,v5],_,[y0,y1,BJ,IU,ab7,ab2],_=>
  have bt:=a6 0 (hl "Op" 56 0 0) C;have U:=a6 1 (hl "Arg" 3 1 8) C;have ad:=a6 2 (hl "Path" 23 2 16) C;have al:=a6 3 (hl "Class" 3 3 40) C;have bd:=a6 4 (hl "N" 3 4 48) C;have bD:=a6 5 (hl "Kids" 47 5 56) C;simp only [hl,EA,aaM,q',xj,aaN,drop,take] at bt U ad al bd bD;obtain ⟨a0,g0,vp⟩:=trod_int Tryz.underlying56 bt;obtain ⟨dW,g1,h3⟩:=trod_int Tryz.underlying3 U;obtain ⟨a2,g2,dx⟩:=yZ ad;obtain ⟨a3,g3,m9⟩:=trod_int Tryz.underlying3 al;obtain ⟨a4,g4,n6⟩:=trod_int Tryz.underlying3 bd;obtain ⟨a5,g5,Br⟩:=yY (sz:=6) ak.cells ak.weight Tryz.underlying47 fY ag (fun m cs y hm ay=>a1 m ag cs y ay) bD;refine ⟨.mk a0 dW a2 a3 a4 a5,?_,?_⟩
  ·have:ak.cells (ak.mk a0 dW a2 a3 a4 a5)=[.int .i64 a0]++([.int .i64 dW]++([bf a2]++([.int .i64 a3]++([.int .i64 a4]++([.aA 6 (a5.map fun a => .agg (ak.cells a)) .bb]))))):=by rw [aaK];rfl
   rw [this];exact bG.j1 (vs:=[v0]) g0 (bG.j1 (vs:=[v1]) g1 (bG.j1 (vs:=[v2]) g2 (bG.j1 (vs:=[v3]) g3 (bG.j1 (vs:=[v4]) g4 (g5)))))
  ·simp only [xh,map_cons,map_nil,Rows.uptoBulkAll,ak.weight,ak.PG]
   omega
def EB (x:iP):List af:=[.int .i64 x.slot,.int .i64 x.n]
def iP.weight (_x:iP):Nat:=2
theorem aaO (fuel:Nat) (cs:List Value) (y:DataW H×List MemPlace) (h:DataW.trod enc Tryz.prog w 0 (fun _=>true) true fuel 241 cs=some y):∃ e:iP,bG w (lr w) cs (EB e)∧iP.weight e≤Rows.uptoBulk y.1:=by
 obtain ⟨xs,n,rfl,rfl,aB,hlen,a6⟩:=DataW.trod_struct Tryz.underlying241 h;have PJ : Tryz.prog.cellsOf 241 = 2:=by kernel_rfl
 have q' : Tryz.prog.cellsOf 3 = 1:=by kernel_rfl
 rw [PJ] at aB
 match cs,aB,xs,hlen with
 | [v0,v1],_,[y0,y1],_=>
  have bt:=a6 0 (hl "Slot" 3 0 0) C;have U:=a6 1 (hl "N" 3 1 8) C;simp only [hl,PJ,q',drop,take] at bt U;obtain ⟨a0,g0,vp⟩:=trod_int Tryz.underlying3 bt;obtain ⟨dW,g1,h3⟩:=trod_int Tryz.underlying3 U;refine ⟨iP.mk a0 dW,?_,?_⟩
  ·have:EB (iP.mk a0 dW)=[.int .i64 a0]++([.int .i64 dW]):=rfl
   rw [this];exact bG.j1 (vs:=[v0]) g0 (g1)
  ·simp only [xh,map_cons,map_nil,Rows.uptoBulkAll,iP.weight]
   omega
def fJ.weight (x:fJ):Nat:=x.parents.length+x.bo.length+(x.inits.map iP.weight).sum+3
theorem aaP (fuel:Nat) (cs:List Value) (y:DataW H×List MemPlace) (h:DataW.trod enc Tryz.prog w 0 (fun _=>true) true fuel 76 cs=some y):∃ e:fJ,bG w (lr w) cs (mN e)∧fJ.weight e≤Rows.uptoBulk y.1:=by
 obtain ⟨xs,n,rfl,rfl,aB,hlen,a6⟩:=DataW.trod_struct Tryz.underlying76 h;have PK : Tryz.prog.cellsOf 76 = 3:=by kernel_rfl
 have xj : Tryz.prog.cellsOf 23 = 1:=by kernel_rfl
 have aaQ : Tryz.prog.cellsOf 74 = 1:=by kernel_rfl
 rw [PK] at aB
 match cs,aB,xs,hlen with
 | [v0,v1,v2],_,[y0,y1,BJ],_=>
  have bt:=a6 0 (hl "Parents" 23 0 0) C;have U:=a6 1 (hl "Slots" 23 1 24) C;have ad:=a6 2 (hl "Inits" 74 2 48) C;simp only [hl,PK,xj,aaQ,drop,take] at bt U ad;obtain ⟨a0,g0,vp⟩:=yZ bt;obtain ⟨dW,g1,h3⟩:=yZ U;obtain ⟨a2,g2,dx⟩:=yY (sz:=2) EB iP.weight Tryz.underlying74 fY ag (fun m cs y _ ay=>aaO m cs y ay) ad;refine ⟨fJ.mk a0 dW a2,?_,?_⟩
  ·have:mN (fJ.mk a0 dW a2)=[bf a0]++([bf dW]++([.aA 2 (a2.map fun a => .agg (EB a)) .bb])):=rfl
   rw [this];exact bG.j1 (vs:=[v0]) g0 (bG.j1 (vs:=[v1]) g1 (g2))
  ·simp only [xh,map_cons,map_nil,Rows.uptoBulkAll,fJ.weight]
   omega
def hW.weight (x:hW):Nat:=ak.weight x.fact+3
theorem aaR (fuel:Nat) (cs:List Value) (y:DataW H×List MemPlace) (h:DataW.trod enc Tryz.prog w 0 (fun _=>true) true fuel 89 cs=some y):∃ e:hW,bG w (lr w) cs (nn e)∧hW.weight e≤Rows.uptoBulk y.1:=by
 obtain ⟨xs,n,rfl,rfl,aB,hlen,a6⟩:=DataW.trod_struct Tryz.underlying89 h;have PL : Tryz.prog.cellsOf 89 = 9:=by kernel_rfl
 have aaS : Tryz.prog.cellsOf 87 = 1:=by kernel_rfl
 have q' : Tryz.prog.cellsOf 3 = 1:=by kernel_rfl
 have EA : Tryz.prog.cellsOf 58 = 6:=by kernel_rfl
 rw [PL] at aB
 match cs,aB,xs,hlen with
 | [v0,v1,v2,v3,v4,v5,v6,abW,acb],_,[y0,y1,BJ,IU],_=>
  have bt:=a6 0 (hl "Kind" 87 0 0) C;have U:=a6 1 (hl "Gen" 3 1 8) C;have ad:=a6 2 (hl "Fact" 58 2 16) C;have al:=a6 3 (hl "Node" 3 8 96) C;simp only [hl,PL,aaS,q',EA,drop,take] at bt U ad al;obtain ⟨a0,g0,vp⟩:=trod_int Tryz.underlying87 bt;obtain ⟨dW,g1,h3⟩:=trod_int Tryz.underlying3 U;obtain ⟨a2,g2,dx⟩:=aaL _ _ _ ad;obtain ⟨a3,g3,m9⟩:=trod_int Tryz.underlying3 al;refine ⟨hW.mk a0 dW a2 a3,?_,?_⟩
  ·have:nn (hW.mk a0 dW a2 a3)=[.int .i64 a0]++([.int .i64 dW]++((ak.cells a2)++([.int .i64 a3]))):=by simp only [nn,ak.cells,cons_append,nil_append]
   rw [this];exact bG.j1 (vs:=[v0]) g0 (bG.j1 (vs:=[v1]) g1 (bG.j1 (vs:=[v2,v3,v4,v5,v6,abW]) g2 (g3)))
  ·simp only [xh,map_cons,map_nil,Rows.uptoBulkAll,hW.weight]
   omega
def iQ.weight (x:iQ):Nat:=x.kids.length+3
theorem aaT (fuel:Nat) (cs:List Value) (y:DataW H×List MemPlace) (h:DataW.trod enc Tryz.prog w 0 (fun _=>true) true fuel 85 cs=some y):∃ e:iQ,bG w (lr w) cs (kP e)∧iQ.weight e≤Rows.uptoBulk y.1:=by
 obtain ⟨xs,n,rfl,rfl,aB,hlen,a6⟩:=DataW.trod_struct Tryz.underlying85 h;have PM : Tryz.prog.cellsOf 85 = 3:=by kernel_rfl
 have aaU : Tryz.prog.cellsOf 83 = 1:=by kernel_rfl
 have q' : Tryz.prog.cellsOf 3 = 1:=by kernel_rfl
 have xj : Tryz.prog.cellsOf 23 = 1:=by kernel_rfl
 rw [PM] at aB
 match cs,aB,xs,hlen with
 | [v0,v1,v2],_,[y0,y1,BJ],_=>
  have bt:=a6 0 (hl "Op" 83 0 0) C;have U:=a6 1 (hl "N" 3 1 8) C;have ad:=a6 2 (hl "Kids" 23 2 16) C;simp only [hl,PM,aaU,q',xj,drop,take] at bt U ad;obtain ⟨a0,g0,vp⟩:=trod_int Tryz.underlying83 bt;obtain ⟨dW,g1,h3⟩:=trod_int Tryz.underlying3 U;obtain ⟨a2,g2,dx⟩:=yZ ad;refine ⟨iQ.mk a0 dW a2,?_,?_⟩
  ·have:kP (iQ.mk a0 dW a2)=[.int .i64 a0]++([.int .i64 dW]++([bf a2])):=rfl
   rw [this];exact bG.j1 (vs:=[v0]) g0 (bG.j1 (vs:=[v1]) g1 (g2))
  ·simp only [xh,map_cons,map_nil,Rows.uptoBulkAll,iQ.weight]
   omega
def bP.weight (x:bP):Nat:=(x.ck.map fJ.weight).sum+x.d'.length+(x.methods.map hW.weight).sum+(x.nodes.map iQ.weight).sum+6
theorem abM (fuel:Nat) (cs:List Value) (y:DataW H×List MemPlace) (h:DataW.trod enc Tryz.prog w 0 (fun _=>true) true fuel 27 cs=some y):∃ e:bP,bG w (lr w) cs (cL e)∧bP.weight e≤Rows.uptoBulk y.1:=by
 obtain ⟨xs,n,rfl,rfl,aB,hlen,a6⟩:=DataW.trod_struct Tryz.underlying27 h;have PN : Tryz.prog.cellsOf 27 = 6:=by kernel_rfl
 have aaV : Tryz.prog.cellsOf 22 = 1:=by kernel_rfl
 have q' : Tryz.prog.cellsOf 3 = 1:=by kernel_rfl
 have xj : Tryz.prog.cellsOf 23 = 1:=by kernel_rfl
 have aaW : Tryz.prog.cellsOf 24 = 1:=by kernel_rfl
 have aaX : Tryz.prog.cellsOf 25 = 1:=by kernel_rfl
 rw [PN] at aB
 match cs,aB,xs,hlen with
 | [v0,v1,v2,v3,v4,v5],_,[y0,y1,BJ,IU,ab7,ab2],_=>
  have bt:=a6 0 (hl "Classes" 22 0 0) C;have U:=a6 1 (hl "Slots" 3 1 24) C;have ad:=a6 2 (hl "Gens" 23 2 32) C;have al:=a6 3 (hl "Methods" 24 3 56) C;have bd:=a6 4 (hl "Nodes" 25 4 80) C;have bD:=a6 5 (hl "Main" 3 5 104) C;simp only [hl,PN,aaV,q',xj,aaW,aaX,drop,take] at bt U ad al bd bD;obtain ⟨a0,g0,vp⟩:=yY (sz:=3) mN fJ.weight Tryz.underlying22 fY ag (fun m cs y _ ay=>aaP m cs y ay) bt;obtain ⟨dW,g1,h3⟩:=trod_int Tryz.underlying3 U;obtain ⟨a2,g2,dx⟩:=yZ ad;obtain ⟨a3,g3,m9⟩:=yY (sz:=9) nn hW.weight Tryz.underlying24 fY ag (fun m cs y _ ay=>aaR m cs y ay) al;obtain ⟨a4,g4,n6⟩:=yY (sz:=3) kP iQ.weight Tryz.underlying25 fY ag (fun m cs y _ ay=>aaT m cs y ay) bd;obtain ⟨a5,g5,Br⟩:=trod_int Tryz.underlying3 bD;refine ⟨bP.mk a0 dW a2 a3 a4 a5,?_,?_⟩
  ·have:cL (bP.mk a0 dW a2 a3 a4 a5)=[.aA 3 (a0.map fun a => .agg (mN a)) .bb]++([.int .i64 dW]++([bf a2]++([.aA 9 (a3.map fun a => .agg (nn a)) .bb]++([.aA 3 (a4.map fun a => .agg (kP a)) .bb]++([.int .i64 a5]))))):=rfl
   rw [this];exact bG.j1 (vs:=[v0]) g0 (bG.j1 (vs:=[v1]) g1 (bG.j1 (vs:=[v2]) g2 (bG.j1 (vs:=[v3]) g3 (bG.j1 (vs:=[v4]) g4 (g5)))))
  ·simp only [xh,map_cons,map_nil,Rows.uptoBulkAll,bP.weight]
   omega
def PO (_v:Int×Int):Nat:=2
def e2.weight (x:e2):Nat:=(x.bo.map PO).sum+2
structure Ask where
 bk:List e2
 gen:Int
 args:List (Int×Int)
def Ask.weight (x:Ask):Nat:=(x.bk.map e2.weight).sum+(x.args.map PO).sum+3
end
theorem bP.small {p:bP} (h:bP.weight p≤1048576):fj p:=by
 have aq:=bA;unfold bP.weight at h;have U:=PC p.ck;have ar:∀ {α:Type} (l:List α) (m:α→Nat),(∀ x,1≤m x)→l.length≤(l.map m).sum:=fun l m hm=>by
  induction l with
  | nil=>exact zero_le _
  | cons x r a1=>rw [map_cons,sum_cons,length_cons];have:=hm x;omega
 have c4:=ar p.ck fJ.weight (fun x=>by unfold fJ.weight;omega);have dd:=ar p.methods hW.weight (fun x=>by unfold hW.weight;omega);have eZ:=ar p.nodes iQ.weight (fun x=>by unfold iQ.weight;omega);refine ⟨by omega,fun c aC=>?_,by omega,by omega,fun m hm=>?_,by omega,fun x ab=>?_⟩
 ·have:=Ez (m:=fJ.weight) aC
  unfold fJ.weight at this;have:=ar c.inits iP.weight (fun x=>by unfold iP.weight;omega);unfold fJ.weight at *;omega
 ·have:=Ez (m:=hW.weight) hm
  have:=ak.PH m.fact;unfold hW.weight at *;omega
 ·have:=Ez (m:=iQ.weight) ab
  unfold iQ.weight at *;omega
end Go.Proofs.YtnafpeohfbglmaaGreat
namespace Go.Proofs.YtnafpeohfbglmaaGreat
theorem abN:mapsRowed Tryz.prog=true:=by kernel_rfl
theorem abO:(Tryz.prog.stops==[])=true:=by kernel_rfl
theorem abP:(Tryz.prog.stopKnobs==[])=true:=by kernel_rfl
theorem abQ : Tryz.prog.stopsHeard=true:=by kernel_rfl
theorem abR : Tryz.prog.mayEnter=true:=by kernel_rfl
theorem abS:(Rows.treeSmallsUptoRow.lifted == Tryz.prog.liftsFinal)=true:=by kernel_rfl
theorem abT:(Tryz.prog.make==some Rows.treeSmallsUptoRow.make)=true:=by kernel_rfl
theorem abU:(Rows.treeSmallsUptoRow.plainKeys == Tryz.prog.plainKeys)=true:=by kernel_rfl
end Go.Proofs.YtnafpeohfbglmaaGreat
