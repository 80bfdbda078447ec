import Derived.Test.YtnafpeohfbglmaaGreatPg
import Derived.Test.YtnafpeohfbglmaaGreatRows
import Derived.ProofKit
import Derived.OpenShut
import Derived.WalkKit
import Derived.JoinedCond
set_option linter.unusedVariables false
set_option linter.unusedSimpArgs false
set_option maxRecDepth 100000
set_option maxHeartbeats 4000000
theorem LG {p:Prop} (h:p:=by repeat (first|exact trivial|refine ⟨⟨_,rfl,aR⟩,?_⟩|refine ⟨⟨_,rfl,a8.of_eq (by (first|rw [nt (by omega)]|(show _=jW (ca.test _ _ _);rw [jW,AH,FW])))⟩,?_⟩)):p:=h
theorem LH {p:Prop} (h:p:=by repeat (first|exact trivial|refine ⟨⟨_,rfl,aR⟩,?_⟩|refine ⟨⟨_,rfl,a8.of_eq (by (first|rw [nt (by omega)]|(rw [List.map_append];rfl)))⟩,?_⟩)):p:=h
theorem LI {p:Prop} (h:p:=by simp only [dI,dx,c8];repeat (first|exact au.nil|(apply au.cons;· repeat (first|exact aP.here|apply aP.there)))):p:=h
theorem LJ {p:Prop} (h:p:=by show au _ [(_,.row _ _ (out++[x]).length)] _;rw [List.length_append];exact bM):p:=h
theorem w4 {p:Prop} (h:p:=by show vs.length-(j+1)<vs.length-j;omega):p:=h
theorem zr {p:Prop} (h:p:=by show l.length-(i+1)<l.length-i;omega):p:=h
namespace Go.Proofs.YtnafpeohfbglmaaGreat
open Go.bj Go.bY
def oI (p:b9) (n:Int) (l:List ax) (an cm cd:Nat) (vs:List Nat):a6:=[dI p n (c8 l) (.aA 1 (iw vs) .bd) an cm cd,(.own an,.map (zp p n l vs))]
def Vd:Option Nat→Int
 | none => -1
 | some v=>v
theorem LK (g:Nat→ad):∀ vs:List Nat,h1 (vs.map fun u:Nat=>(.int .i64 (u:Int),g u)) (.int .i64 (-1))=some none
  | []=>rfl
  | u::r=>by
    rw [List.map_cons,h1];have hu:((-1:Int)==(u:Int))=false:=by rw [beq_eq_false_iff_ne];omega
    simp only [iY,if_true,hu,LK g r]
def Ve (h:Nat→List Int) (vs rest:List Nat):Option Nat→Prop
 | none=>vs=rest
 | some v=>pv h vs=rest.all (fun u=>h u==h v)∧firstM h vs=h v
theorem Vf (p:b9) (n:Int) (l:List ax) (an cm cd:Nat) (vs:List Nat) (eh:∀ v∈vs,v<128) (fa:vs.length≤128) (gQ:p.methods.length≤16) (q:Nat→Bool) :
    bu Tryz.prog 105 [.ptr cd 0,jx q] (oI p n l an cm cd vs) (fun o K=>o = .ret (if pv (dw p n l) (vs.filter q) then .cl [bI (firstM (dw p n l) (vs.filter q)),.bool true] else .cl [.aA 0 [] .nil,.bool false])∧K=oI p n l an cm cd vs):=by
  have k0:bt=1099511627776:=rfl;have zh:=fun v h=>U3 q v h
  have LL:=fun v=>zk n l v p.methods 0
  refine bu.bp ak call105 Tryz.func105 C C fun s I=>?_
  unfold oI dI dx c8 at *;refine gu I ?_;intro I;refine af.cT [0,3,12,13] C I (σ:=Nat×Option Nat) (fun x=>[(14,.int .i64 (x.1:Int)),(6,.int .i64 (Vd x.2))]) (fun _=>oI p n l an cm cd vs) (fun x=>x.1≤vs.length∧(∀ v,x.2=some v→v∈vs)∧Ve (dw p n l) (vs.filter q) ((vs.drop x.1).filter q) x.2) (fun x=>vs.length-x.1) (0,none)
    ⟨Nat.zero_le _,(fun _ h=>by cases h),rfl⟩ (c3 rfl) (by simp only [oI,dI,dx,c8];repeat (first|exact au.nil|(apply au.cons;· repeat (first|exact aP.here|apply aP.there)))) ?_
  rintro ⟨j,fst⟩ ⟨aS,ba,aH⟩ I;simp only [oI,dI,dx,c8] at aS ba aH I ⊢;refine cL ?_;refine af.cond C (fun aG=>?_) (fun bk=>?_);rotate_left
  · have bk:j=vs.length:=by simp [iw] at bk;omega
    rw [fC ai,List.filter_nil] at aH;cases fst with
    | none=>
      have aH:vs.filter q=[]:=aH;rw [aH,pv,firstM,if_pos C];have ao:=LK (fun v=>bI (dw p n l v)) vs;refine cn I ?_;intro I;refine aa.ij ak I C C C C C C C C C C a1 C ao C ?_;refine dO ?_;exact Fin.bH I C (a8.cl (.cons a8.empty (.cons aR .nil))) (au.all _) ⟨rfl,rfl⟩
    | some v=>
      obtain ⟨U,ae⟩:=aH;rw [U,ae,List.all_nil,if_pos C];have ao:=B3 (fun v=>bI (dw p n l v)) v vs;rw [if_pos (by simpa using ba v C)] at ao;refine cn I ?_;intro I;refine aa.ij ak I C C C C C C C C C C a1 C ao C ?_;refine dO ?_;exact Fin.bH I C aR (au.all _) ⟨rfl,rfl⟩
  have aG:j<vs.length:=by simpa [iw] using aG
  obtain ⟨x,ab,ch⟩:=cD (f:=fun v:Nat=>ad.int .i64 (v:Int)) aG;have yY:=List.mem_of_getElem? ab;have Vg:=eh x yY;have c':=zh x Vg;rw [drop_cons ab,List.filter_cons] at aH;unfold iw at *;refine cH ?_;cases bs:q x with
  | false=>
    rw [bs,if_neg bn] at aH;refine bP ?_;exact bX.mk (j+1,fst) I ⟨aG,ba,aH⟩ c7 bM w4
  | true=>
    rw [bs,if_pos C] at aH;cases fst with
    | none=>
      refine bP ?_
      exact bX.mk (j+1,some x) I ⟨aG,(fun v h=>by cases h;exact yY),by
        have aH:vs.filter q=_:=aH
        refine ⟨?_,?_⟩
        · rw [aH];rfl
        · rw [aH];rfl⟩ c7 bM w4
    | some v=>
      obtain ⟨U,ae⟩:=aH;rw [List.all_cons] at U;have ao:=fun u hu=>by
        have:=B3 (fun v=>bI (dw p n l v)) u vs;rw [if_pos (by simpa using hu)] at this;exact this
      have zd:=ao x yY;have As:=ao v (ba v C);have heq:=sr (dw p n l x) (dw p n l v) (by have:=LL x;unfold dw;omega) (by have:=LL v;unfold dw;omega);cases aE:dw p n l x==dw p n l v with
      | false=>
        rw [aE] at heq U;rw [U,Bool.false_and,if_neg bn];refine gu I ?_;intro I;refine aM.ij ak I C C C C C C C C C C a1 C zd C ?_;refine cn I ?_;intro I;refine aM.ij ak I C C C C C C C C C C a1 C As C ?_;refine cy ?_;exact Fin.bH I C aR (au.all _) ⟨rfl,rfl⟩
      | true=>
        rw [aE] at heq U;rw [Bool.true_and] at U;refine gu I ?_;intro I;refine aM.ij ak I C C C C C C C C C C a1 C zd C ?_;refine cn I ?_;intro I;refine aM.ij ak I C C C C C C C C C C a1 C As C ?_;refine cy ?_;exact bX.mk (j+1,some v) I ⟨aG,ba,U,ae⟩ c7 bM w4
end Go.Proofs.YtnafpeohfbglmaaGreat
namespace Go.Proofs.YtnafpeohfbglmaaGreat
open Go.bj Go.bY
theorem Vh (fv:ad) (xs:List Int) (K:a6) (q:Int→Bool) (aI:xs.length<bt) (h:∀ x∈xs,c2 Tryz.prog fv [bg x] K (fun o aL=>o = .ret (.bool (q x))∧aL=K)) :
  bu Tryz.prog 40 [.aA 1 (xs.map bg) .bd,fv] K (fun o aL=>o = .ret (.bool (xs.any q))∧aL=K):=by
 have:=H3 fv xs (fun _=>K) (fun j=>match xs[j]? with|some x=>q x|none=>false) aI (fun j x ab _=>by rw [ab];exact h x (List.mem_of_getElem? ab));refine bu.mono this ?_;rintro o aL (⟨rfl,rfl,U⟩|⟨j,U,ae,al,rfl,rfl⟩)
 ·have:xs.any q=false:=by
   rw [List.any_eq_false];intro x ab;obtain ⟨i,aY⟩:=List.getElem?_of_mem ab;have:=U i (sq aY);rw [aY] at this;simpa using this
  rw [this];exact ⟨rfl,rfl⟩
 ·have ab:=List.getElem?_eq_getElem U
  rw [ab] at ae;rw [List.any_eq_true.2 ⟨_,List.mem_of_getElem? ab,ae⟩];exact ⟨rfl,rfl⟩
def s5 (p:b9) (n:Int) (l:List ax) (g:List bC) (v:Nat):Bool:=(g.getD (leads g v).1.toNat default).ms==dw p n l v
theorem Vi (p:b9) (n:Int) (l:List ax) (an cm cd:Nat) (vs:List Nat) (wY:p.methods.length≤16) (g:List bC) (ao:fP g=true) (v:Nat) (av:v∈vs) (Vj:v<2^63) :
  c2 Tryz.prog (.func 121 [] [.bq [eR g] 0,.bq [.ptr cd 0] 0]) [.int .i64 (v:Int)] (oI p n l an cm cd vs) (fun o K=>o = .ret (.bool (!s5 p n l g v))∧K=oI p n l an cm cd vs):=by
 have k0:bt=1099511627776:=rfl;have qt:=JL g ao v Vj;obtain ⟨j,x,U,ae,-⟩:=JN ao v;have gQ:=zk n l v p.methods 0;have jI:x.ms.length≤16:=by
  have aC:=ry ao ae;by_cases aV:x.atom = -1
  ·exact ((lM aV).1 aC).2.2.1
  ·have:=((iS aV).1 aC).2.2.2.2.2.2
   omega
 have heq:=sr x.ms (dw p n l v) ai (by unfold dw;omega);have vP:s5 p n l g v=(x.ms==dw p n l v):=by
  unfold s5;rw [U,Int.toNat_natCast,List.getD_eq_getElem?_getD,ae];rfl
 have rS:=B3 (fun v=>bI (dw p n l v)) v vs;rw [if_pos (by simpa using av)] at rS;have ch:(g.map de)[j]? = some (de x):=by rw [List.getElem?_map,ae];rfl
 rw [U] at qt;refine c2.eP (first:=[]) (cap:=[.bq [eR g] 0,.bq [.ptr cd 0] 0]) ?_;refine bu.bp ak call121 Tryz.func121 C C fun s I=>?_
 unfold oI dI dx c8 eR at *;unfold de fj at ch;rw [vP];cases aE:x.ms==dw p n l v with
 | true=>
  rw [aE] at heq;refine gu I ?_;intro I;refine aM.ij ak I C C C C C C C C C C a1 C rS C ?_;refine cH ?_;exact Fin.bH I C aR (au.all _) ⟨rfl,rfl⟩
 | false=>
  rw [aE] at heq;refine gu I ?_;intro I;refine aM.ij ak I C C C C C C C C C C a1 C rS C ?_;refine cH ?_;exact Fin.bH I C aR (au.all _) ⟨rfl,rfl⟩
theorem Vk (p:b9) (aN:gS p) (eD:hg p=true) (n:Int) (l:List ax) (an cm cd:Nat) (gT:l.length≤7) (cU:iV (cu p) l) (eT:l.Nodup) (fV:zl p n l) (g:List bC) (ao:fP g=true) :
    bu Tryz.prog 73 [.ptr cd 0,eR g] [dI p n (c8 l) (.aA 0 [] .nil) an cm cd,(.own an,.map [])] (fun o K=>o = .ret (.bool (g.all (fun x=>decide (x.atom<(l.length:Int)))&&(hO (cu p) l).all (s5 p n l g)))∧∃ Bo m,K=[dI p n (c8 l) Bo an cm cd,(.own an,.map m)]):=by
  have k0:bt=1099511627776:=rfl;have w2:2^l.length≤2^7:=Nat.pow_le_pow_right ai gT;obtain ⟨nI,la⟩:=vV ao;have kg:=FP p aN eD n l an cm cd gT cU eT fV;have fa:=zq (cu p) l;have eh:∀ v∈hO (cu p) l,v<2^l.length:=fun v h=>LF h
  have wY:=(wX eD).1;generalize hO (cu p) l=vs at *
  have pJ:=Vh (.func 121 [] [.bq [eR g] 0,.bq [.ptr cd 0] 0]) (vs.map fun v:Nat=>(v:Int)) (oI p n l an cm cd vs) (fun z => !s5 p n l g z.toNat) nL (fun z bE=>by
    obtain ⟨v,av,rfl⟩:=List.mem_map.1 bE
    have:=eh v av
    exact Vi p n l an cm cd vs wY g ao v av ai)
  have B8:(vs.map fun v:Nat=>(v:Int)).map bg=iw vs:=by rw [List.map_map];rfl
  have Vl:(vs.map fun v:Nat=>(v:Int)).any (fun z => !s5 p n l g z.toNat) = !vs.all (s5 p n l g):=by
    rw [List.any_map,List.all_eq_not_any_not,Bool.not_not];rfl
  rw [B8,Vl] at pJ;refine bu.bp ak call73 Tryz.func73 C C fun s I=>?_
  unfold oI dI dx c8 eR at *;refine iO ?_;refine af.cT [2,3,7,8] C I (σ:=Nat) (fun j=>[(9,.int .i64 (j:Int))]) (fun _=>[dI p n (c8 l) (.aA 0 [] .nil) an cm cd,(.own an,.map [])]) (fun j=>j≤g.length∧g.all (fun x=>decide (x.atom<(l.length:Int)))=(g.drop j).all (fun x=>decide (x.atom<(l.length:Int)))) (fun j=>g.length-j) 0 ⟨Nat.zero_le _,rfl⟩ (c3 C) LI ?_;rintro j ⟨aS,aH⟩ I;simp only [dI,dx,c8] at aS aH I ⊢;refine cL ?_;refine af.cond C (fun aG=>?_) (fun bk=>?_);rotate_left
  · have bk:j=g.length:=by simp at bk;omega
    rw [fC ai,List.all_nil] at aH;rw [aH,Bool.true_and];refine bP ?_;refine aa.b0 rfl rfl rfl rfl rfl kg I bM ?_ (fun _ _ ⟨h,_⟩ _=>by cases h);rintro _ _ ⟨⟨⟩,rfl⟩ I;simp only [List.cons_append,List.nil_append] at I ⊢;refine cn I ?_;intro I;refine aa.b0 rfl rfl rfl rfl rfl pJ I bM ?_ (fun _ _ ⟨h,_⟩ _=>by cases h);rintro _ _ ⟨⟨⟩,rfl⟩ I;simp only [List.cons_append,List.nil_append] at I ⊢;refine dO ?_;exact Fin.bH I C (a8.of_eq bn) (au.all _) ⟨rfl,_,_,rfl⟩
  have aG:j<g.length:=by simpa using aG
  obtain ⟨x,ab,ch⟩:=cD (f:=de) aG;rw [drop_cons ab,List.all_cons] at aH;unfold de fj bI at ch;refine Hw I ?_;intro I;refine af.cond C (fun aE=>?_) (fun aE=>?_)
  · rw [show decide (x.atom<(l.length:Int))=false by simp at aE ⊢;omega,Bool.false_and] at aH
    rw [aH,Bool.false_and];refine mh ?_;exact Fin.bH I C aR (au.all _) ⟨rfl,_,_,rfl⟩
  · rw [show decide (x.atom<(l.length:Int))=true by simp at aE ⊢;omega,Bool.true_and] at aH
    refine gi ?_;exact bX.mk (j+1) I ⟨aG,aH⟩ c7 bM ua
end Go.Proofs.YtnafpeohfbglmaaGreat
namespace Go.Proofs.YtnafpeohfbglmaaGreat
open Go.bj Go.bY
theorem Vm (v:Int×Int) (n:Int):a7 Tryz.prog 160 [fr v,.int .i64 n] (.bool (gE n v)):=by
 have an:=bQ;refine a7.bp ak call160 Tryz.func160 C C fun s I=>?_
 unfold fr
 repeat' (first|(with_reducible first|apply af.seq|apply cf|apply hb|apply ga|apply ih|apply af.ret|apply af.skip|apply af.block)|refine dK C ?_|refine af.cK ?_|refine aa.nil ?_|refine cG C ?_|refine aa.skip C C C ?_|(fail_if_success refine aa.same true C ?_);(fail_if_success refine aa.same false C ?_);refine aa.iB C C (fun h=>?_) (fun h=>?_)|refine af.cond C (fun h=>?_) (fun h=>?_))
 all_goals (refine Fin.dT I C (a8.of_eq (congrArg ad.bool ?_));clear I;simp only [gE,nB];grind)
theorem Vn (fv:ad) (q:Int→Bool) (xs:List Int) (aI:xs.length<bt) (h:∀ x∈xs,dM Tryz.prog fv [bg x] (.bool (q x))):a7 Tryz.prog 161 [.aA 1 (xs.map bg) .bd,fv] (.aA 1 ((xs.filter q).map bg) .bd):=by
 have an:=bQ;refine a7.bp ak call161 Tryz.func161 C C fun s I=>?_
 refine iO ?_;refine af.kz I 3 1 0 fun I=>?_
 refine af.cT [0,1,8,9] C I (σ:=Nat×List Int×bU) (fun p=>[(10,.int .i64 (p.1:Int)),(5,.aA 1 (p.2.1.map bg) p.2.2)]) (fun p=>[(p.2.2,.row 3 1 p.2.1.length)]) (fun p=>p.1≤xs.length∧p.2.1.length≤p.1∧xs.filter q=p.2.1++(xs.drop p.1).filter q) (fun p=>xs.length-p.1) (0,[],.nil)
  ⟨Nat.zero_le _,Nat.le_refl _,rfl⟩ ⟨⟨_,rfl,aR⟩,⟨_,rfl,a8.nil jO⟩,trivial⟩ bM ?_
 rintro ⟨j,out,fK⟩ ⟨aS,gC,aH⟩ I;simp only at aS gC aH I ⊢;refine cL ?_;refine af.cond C (fun aG=>?_) (fun bk=>?_);rotate_left
 ·have bk:j=xs.length:=by simp at bk;omega
  rw [fC ai,List.filter_nil,List.append_nil] at aH;rw [aH];have cE:=D9 (out.map bg) fK;refine cH ?_;exact Fin.dT I C a8.bd
 have aG:j<xs.length:=by simpa using aG
 obtain ⟨x,ab,ch⟩:=cD (f:=bg) aG;have av:=h x (List.mem_of_getElem? ab);rw [drop_cons ab,List.filter_cons] at aH
 try rw [bg] at av ch
 refine cH ?_;cases bs:q x with
 | true=>
  rw [bs] at aH av;rw [if_pos C] at aH;refine bP ?_;refine aa.iN ak I C C C C C C C eQ C C C C C C C C a1 k4 mK ai (fun ct I=>?_);refine h8 ?_;exact bX.mk (j+1,out++[x],.own ct) I ⟨aG,by simp;omega,by rw [aH];simp⟩ LH LJ p2
 | false=>
  rw [bs] at aH av;rw [if_neg bn] at aH;refine bP ?_;exact bX.mk (j+1,out,fK) I ⟨aG,by show out.length≤j+1;omega,aH⟩ c7 bM p2
theorem Vo (fv:ad) (q:(Int×Int)→Bool) (xs:List (Int×Int)) (aI:xs.length<bt) (h:∀ x∈xs,dM Tryz.prog fv [fr x] (.bool (q x))):a7 Tryz.prog 158 [.aA 2 (xs.map fr) .bd,fv] (.aA 2 ((xs.filter q).map fr) .bd):=by
 have an:=bQ;refine a7.bp ak call158 Tryz.func158 C C fun s I=>?_
 refine iO ?_;refine af.kz I 122 2 0 fun I=>?_
 refine af.cT [0,1,8,9] C I (σ:=Nat×List (Int×Int)×bU) (fun p=>[(10,.int .i64 (p.1:Int)),(5,.aA 2 (p.2.1.map fr) p.2.2)]) (fun p=>[(p.2.2,.row 122 2 p.2.1.length)]) (fun p=>p.1≤xs.length∧p.2.1.length≤p.1∧xs.filter q=p.2.1++(xs.drop p.1).filter q) (fun p=>xs.length-p.1) (0,[],.nil)
  ⟨Nat.zero_le _,Nat.le_refl _,rfl⟩ ⟨⟨_,rfl,aR⟩,⟨_,rfl,a8.nil jO⟩,trivial⟩ bM ?_
 rintro ⟨j,out,fK⟩ ⟨aS,gC,aH⟩ I;simp only at aS gC aH I ⊢;refine cL ?_;refine af.cond C (fun aG=>?_) (fun bk=>?_);rotate_left
 ·have bk:j=xs.length:=by simp at bk;omega
  rw [fC ai,List.filter_nil,List.append_nil] at aH;rw [aH];have cE:=Qf (out.map fr) fK;refine cH ?_;exact Fin.dT I C a8.bd
 have aG:j<xs.length:=by simpa using aG
 obtain ⟨x,ab,ch⟩:=cD (f:=fr) aG;have av:=h x (List.mem_of_getElem? ab);rw [drop_cons ab,List.filter_cons] at aH
 try rw [fr] at av ch
 refine gP ?_;cases bs:q x with
 | true=>
  rw [bs] at aH av;rw [if_pos C] at aH;refine bP ?_;refine aa.iN ak I C C C C C C C eQ C C C C C C C C a1 k4 (by show (_+1)*16≤_;omega) ai (fun ct I=>?_);refine h8 ?_;exact bX.mk (j+1,out++[x],.own ct) I ⟨aG,by simp;omega,by rw [aH];simp⟩ LH LJ p2
 | false=>
  rw [bs] at aH av;rw [if_neg bn] at aH;refine bP ?_;exact bX.mk (j+1,out,fK) I ⟨aG,by show out.length≤j+1;omega,aH⟩ c7 bM p2
def ll (p:b9) (mb:Nat):List ad:=dC p++(hf (cu p)++[.map mb])
theorem Vp (p:b9) (mb:Nat) (n:Int):a7 Tryz.prog 157 [.bq (ll p mb) 0,.int .i64 n] (.bool (rJ p n)):=by
 have an:=bQ;refine a7.bp ak call157 Tryz.func157 C C fun s I=>?_
 unfold ll dC hf rJ bI;by_cases U:n≥0
 ·rw [decide_eq_true U,Bool.true_and]
  refine dF ?_;refine aa.eH 11 C (decide_eq_true U) ?_;refine dO ?_;refine Fin.dT I C (a8.of_eq (congrArg ad.bool ?_));rw [List.length_map]
 ·rw [decide_eq_false U,Bool.false_and]
  refine dF ?_;refine aa.dR 11 C (decide_eq_false U) ?_;refine cC ?_;exact bA I
theorem Vq (n:Int):a7 Tryz.prog 157 [.oM,.int .i64 n] (.bool false):=by
 have an:=bQ;refine a7.bp ak call157 Tryz.func157 C C fun s I=>?_
 refine nv ?_;exact bA I
theorem Vr (bh:List eW) (v:Int×Int):dM Tryz.prog (.func 159 [] [.bq [gl bh] 0]) [fr v] (.bool (gE bh.length v)):=by
 have an:=bQ;refine dM.eP (first:=[]) (cap:=[.bq [gl bh] 0]) ?_;refine a7.bp ak call159 Tryz.func159 C C fun s I=>?_
 have h:=Vm v (bh.map hV).length;rw [show gE ((bh.map hV).length:Int) v=gE bh.length v by rw [List.length_map]] at h;unfold fr at *;refine cy ?_;exact bA I
def uU (p:b9) (bh:List eW) (n:Int) (args:List (Int×Int)):Bool:=rJ p n&&(decide ((args.length:Int)=p.eY.getD n.toNat 0)&&nE (cu p) bh args)
theorem Vs (w:bT):iQ w (.mk 1 0 [] 0 0 [])=true:=by
 unfold iQ;rw [eX,if_neg bn,if_pos (by rfl),hd]
theorem Vt (w:bT) (bh:List eW) (args:List (Int×Int)):(mr w (.mk 1 0 [] 0 0 []) bh args).2=if nE w bh args then 0 else 2:=by
 unfold mr;rw [Vs,Bool.true_and,show decide (mj (.mk 1 0 [] 0 0 [])≤(args.length:Int))=true by simp [mj,iq,ax.du,ax.op],Bool.and_true];split<;>rfl
theorem Vu (p:b9) (aN:gS p) (bB:hg p=false):a7 Tryz.prog 118 [ee p] (.oM):=by
 have an:=bQ;refine a7.bp ak call118 Tryz.func118 C C fun s I=>?_
 have hw:=FE p aN;rw [bB] at hw;simp only [Bool.false_eq_true,if_false] at hw;unfold ee dC at *;refine gP ?_;exact bA I
end Go.Proofs.YtnafpeohfbglmaaGreat
namespace Go.Proofs.YtnafpeohfbglmaaGreat
open Go.bj Go.bY
theorem Vv (p:b9) (aN:gS p) (eD:hg p=true) (mb:Nat) (n:Int) (bh:List eW) (args:List (Int×Int)) (aI:bh.length<bt) (ag:∀ o∈bh,o.bx.length<bt) (aV:args.length<bt) :
  a7 Tryz.prog 119 [.bq (ll p mb) 0,gl bh,.int .i64 n,jU args] (.bool (uU p bh n args)):=by
 have an:=bQ;have LM:=Vp p mb n;have Vw:=Vo (.func 159 [] [.bq [gl bh] 0]) (gE bh.length) args aV (fun v _=>Vr bh v);have oJ:=Ef (cu p) (ze eD) (.mk 1 0 [] 0 0 []) dd bh args aI ag aV;have Vx:=Vt (cu p) bh args;have lW:uU p bh n args=(rJ p n&&(decide ((args.length:Int)=p.eY.getD n.toNat 0)&&nE (cu p) bh args)):=rfl;refine a7.bp ak call119 Tryz.func119 C C fun s I=>?_
 rw [ax.cO] at oJ;unfold ax.cells iR at oJ;cases ao:rJ p n with
 | false=>
  rw [ao] at LM lW;rw [lW,Bool.false_and];unfold ll dC hf gl jU at *;refine cy ?_;exact bA I
 | true=>
  rw [ao] at LM lW;rw [Bool.true_and] at lW;unfold rJ at ao;simp only [Bool.and_eq_true,decide_eq_true_eq] at ao;obtain ⟨c,rfl⟩:∃ c:Nat,n=c:=⟨n.toNat,by omega⟩;obtain ⟨a,rS,XD⟩:=cD (f:=bg) (l:=p.eY) (show c<p.eY.length by omega);have nn:p.eY.getD ((c:Nat):Int).toNat 0=a:=by rw [Int.toNat_natCast,List.getD_eq_getElem?_getD,rS];rfl
  rw [nn] at lW;unfold ll dC hf gl jU bI at *;refine cy ?_;by_cases ev:(args.length:Int)=a;rotate_left
  ·refine aa.eH 28 C dq ?_
   rw [lW,decide_eq_false ev,Bool.false_and];refine cC ?_;exact bA I
  refine aa.dR 28 C dq ?_;rw [decide_eq_true ev,Bool.true_and] at lW;cases fV:args.all (gE bh.length) with
  | false=>
   have Vy:nE (cu p) bh args=false:=by
    unfold nE;rw [fV];simp
   rw [Vy] at lW;rw [lW];have aG:(args.filter (gE bh.length)).length<args.length:=by
    rw [List.length_filter_lt_length_iff_exists];obtain ⟨x,ab,h⟩:=List.all_eq_false.1 fV;exact ⟨x,ab,h⟩
   refine cH ?_;refine af.cond C (fun _=>?_) (fun h=>by simp at h;omega);refine j' ?_;exact bA I
  | true=>
   have ir:args.filter (gE bh.length)=args:=List.filter_eq_self.2 (List.all_eq_true.1 fV);rw [ir] at Vw;rw [Vx] at oJ;refine cH ?_;refine af.cond C (fun h=>by simp at h) (fun _=>?_);cases c':nE (cu p) bh args with
   | false=>
    rw [c'] at lW oJ;simp only [Bool.false_eq_true,if_false] at oJ;rw [lW];refine n8 ?_;refine aM.iC C C C C C oJ (.cons aR (.cons (a8.agg (.cons aR (.cons aR (.cons a8.empty (.cons aR (.cons aR (.one a8.empty))))))) (.cons aR (.one aR)))) ?_;refine cy ?_;exact bA I
   | true=>
    rw [c'] at lW oJ;simp only [if_true] at oJ;rw [lW];refine n8 ?_;refine aM.iC C C C C C oJ (.cons aR (.cons (a8.agg (.cons aR (.cons aR (.cons a8.empty (.cons aR (.cons aR (.one a8.empty))))))) (.cons aR (.one aR)))) ?_;refine cy ?_;exact bA I
def lX (n:Int):Nat→List kC→List Nat
 | _,[]=>[]
 | i,m::r=>if m.gen=n then i::lX n (i+1) r else lX n (i+1) r
theorem LN (n:Int):∀ (ms:List kC) (i:Nat),(lX n i ms).length≤ms.length
  | [],_=>Nat.le_refl _
  | m::r,i=>by
    have:=LN n r (i+1);rw [lX];split<;>simp<;>omega
theorem LO (n:Int):∀ (ms:List kC) (i:Nat) (j:Nat),j∈lX n i ms→i≤j∧j<i+ms.length
  | [],i,j,h=>by rw [lX] at h;cases h
  | m::r,i,j,h=>by
    rw [lX] at h;have a':=LO n r (i+1) j;rw [List.length_cons];split at h
    · rcases List.mem_cons.1 h with rfl|h
      · omega
      · have:=a' h;omega
    · have:=a' h;omega
def pK (i:Nat):ad := .int .i64 (i:Int)
theorem Vz (p:b9) (aN:gS p) (mb:Nat) (n:Int):vM Tryz.prog 196 [] [.bq [.bq (ll p mb) 0] 0,.bq [.int .i64 n] 0] [] pK (lX n 0 p.methods):=by
 have an:=bQ;have gQ:=aN.BL;intro l Go e6 fb nx K br;refine bu.bp ak call196 Tryz.func196 C C fun s I=>?_
 rw [List.nil_append] at I ⊢;unfold ll dC hf at *;refine iO ?_;refine af.cT [0,1,2,10,11] C I (σ:=Nat×a6) (fun q=>[(12,.int .i64 (q.1:Int))]) (fun q=>q.2) (fun q=>q.1≤p.methods.length∧Go (lX n q.1 (p.methods.drop q.1)) q.2) (fun q=>p.methods.length-q.1) (0,K) ⟨Nat.zero_le _,br⟩ (c3 C) (au.all _) ?_;rintro ⟨j,hN⟩ ⟨aS,df⟩ I
 try simp only at aS df I ⊢
 refine cL ?_;refine af.cond C (fun aG=>?_) (fun bk=>?_);rotate_left
 ·have bk:j=p.methods.length:=by simp at bk;omega
  rw [fC ai,lX] at df;refine fJ ?_;exact Fin.bH I C aR (au.all _) (.inl ⟨rfl,.inl df⟩)
 have aG:j<p.methods.length:=by simpa using aG
 obtain ⟨m,ab,ch⟩:=cD (f:=nC) aG;rw [drop_cons ab,lX] at df;unfold nC uj at ch
 repeat (first|(refine AA I ?_;clear I;intro I)|refine aa.dE ak I rfl rfl rfl rfl rfl rfl rfl (fun cv I=>?_))
 by_cases ao:m.gen=n
 ·rw [if_pos ao] at df
  have ay:=nx j _ hN df;unfold pK at ay;refine aa.eH 21 C (by simpa using ao) ?_;refine d' ?_;refine aa.fO C C C C C C ay I (au.all _).there ?_ ?_
  ·rintro x aL (⟨⟨⟩,h⟩|⟨⟨⟩,h⟩|⟨_,⟨⟩,_⟩) I
   ·refine bP ?_
    exact bX.mk (j+1,aL) I ⟨aG,h⟩ c7 (au.ik (au.fh aL)) rQ
   ·refine cC ?_
    exact Fin.bH I C aR (au.ik (au.fh aL)) (.inl ⟨rfl,.inr h⟩)
  ·rintro x aL (⟨h,_⟩|⟨h,_⟩|⟨v,⟨⟩,h⟩) I
   ·cases h
   ·cases h
   exact Fin.eM I aR (au.ik (au.fh aL)) (.inr ⟨_,rfl,h⟩)
 ·rw [if_neg ao] at df
  refine aa.dR 21 C (by simpa using ao) ?_;refine bP ?_;exact bX.mk (j+1,hN) I ⟨aG,df⟩ c7 (au.all _).there rQ
theorem VA (p:b9) (mb:Nat) (n:Int):a7 Tryz.prog 163 [.bq (ll p mb) 0,.int .i64 n] (.func 196 [] [.bq [.bq (ll p mb) 0] 0,.bq [.int .i64 n] 0]):=by
 have an:=bQ;refine a7.bp ak call163 Tryz.func163 C C fun s I=>?_
 refine nv ?_;exact bA I
theorem VB (f:FuncId) (cap:List ad) (xs:List Nat) (aI:xs.length<bt) (mL:vM Tryz.prog f [] cap [] pK xs):bu Tryz.prog 195 [.aA 0 [] .nil,.func f [] cap] [] (fun o K=>o = .ret (.aA 1 (xs.map pK) .bd)∧K=[]):=by
 have an:=bQ;refine bu.bp ak call195 Tryz.func195 C C fun s I=>?_
 repeat (first|(refine AD ?_)|refine aa.iM I C C C C C C (fun b I=>?_)|(refine AE ?_))
 obtain ⟨dk,rfl⟩:∃ x,x=b:=⟨_,rfl⟩;refine af.kz I 3 1 0 fun I=>?_
 refine af.py I [.aA 1 [] .nil] (kb:=dk) a1 (.one (a8.nil jO)) (fun I=>?_);refine af.Dx I C dd mL .nil (fun rem K=>∃ out own,out.length+rem.length=xs.length∧xs=out++rem∧K=[(.own dk,.box 23 [.aA 1 (out.map pK) own]),(own,.row 3 1 out.length)]) (fun _ _=>False) (fun _ _=>False) ⟨[],.nil,by simp,rfl,rfl⟩ ?_ ?_ (fun _ _ h=>h.elim) (fun _ _ h=>h.elim)
 ·rintro s₁ x rem K ⟨out,own,U,ae,rfl⟩ I
  rw [List.length_cons] at U;unfold pK at I ⊢;refine gu I ?_;intro I;refine aa.iN ak I C C C C C C C eQ C C C C C C C C a1 k4 mK ai (fun ct I=>?_);refine cn I ?_;intro I;exact At.mk [(.own dk,.box 23 [.aA 1 ((out++[x]).map pK) (.own ct)]),(.own ct,.row 3 1 (out++[x]).length)] I (by simp only [pK,List.map_append,List.map_cons,List.map_nil,List.length_append,List.length_cons,List.length_nil];repeat (first|exact au.nil|(apply au.cons;· repeat (first|exact aP.here|apply aP.there)))) ⟨out++[x],.own ct,by simp;omega,by rw [ae];simp,rfl⟩
 ·rintro K ⟨out,own,U,ae,rfl⟩ I
  rw [List.append_nil] at ae;subst ae;refine cn I ?_;intro I;exact Fin.bH I C a8.bd .nil ⟨rfl,rfl⟩
def zs (p:b9) (bh:List eW) (args:List (Int×Int)) (i:Int):Bool:=(mr (cu p) (p.methods.getD i.toNat default).fact bh args).1&&(mr (cu p) (p.methods.getD i.toNat default).fact bh args).2==0
def FX (p:b9) (bh:List eW) (n:Int) (args:List (Int×Int)):List Int:=((lX n 0 p.methods).map fun i:Nat=>(i:Int)).filter (zs p bh args)
theorem VC (p:b9) (aN:gS p) (eD:hg p=true):bu Tryz.prog 118 [ee p] [] (fun o K=>∃ mb,o = .ret (.bq (ll p mb) 0)∧K=[(.own mb,.map [])]):=by
 have hw:=FE p aN;rw [eD,if_pos C,if_pos C] at hw;refine bu.bp ak call118 Tryz.func118 C C fun s I=>?_
 unfold ee dC ll iR hf at *;refine gP ?_;refine aa.pZ I C C C C (fun mb I=>?_);refine dO ?_;exact Fin.bH I C aR (au.all _) ⟨mb,rfl,rfl⟩
theorem VD (p:b9) (aN:gS p) (eD:hg p=true) (mb:Nat) (bh:List eW) (args:List (Int×Int)) (aI:bh.length<bt) (ag:∀ o∈bh,o.bx.length<bt) (aV:args.length<bt) (j:Nat) (aS:j<p.methods.length):dM Tryz.prog (.func 164 [] [.bq [.bq (ll p mb) 0] 0,.bq [gl bh] 0,.bq [jU args] 0]) [.int .i64 (j:Int)] (.bool (zs p bh args j)):=by
 have an:=bQ;refine dM.eP (first:=[]) (cap:=[.bq [.bq (ll p mb) 0] 0,.bq [gl bh] 0,.bq [jU args] 0]) ?_;refine a7.bp ak call164 Tryz.func164 C C fun s I=>?_
 obtain ⟨m,ab,ch⟩:=cD (f:=nC) aS;have gA:=List.mem_of_getElem? ab;have oJ:=Ef (cu p) (ze eD) m.fact (by have:=aN.facts m gA;omega) bh args aI ag aV;have hB:zs p bh args j=((mr (cu p) m.fact bh args).1&&(mr (cu p) m.fact bh args).2==0):=by
  unfold zs;rw [Int.toNat_natCast,List.getD_eq_getElem?_getD,ab];rfl
 rw [ax.cO] at oJ;unfold ax.cells iR at oJ;unfold nC uj at ch;unfold ll dC hf gl jU at *;rw [hB];generalize mr (cu p) m.fact bh args=r at *;obtain ⟨ix,b8⟩:=r;cases ix with
 | false=>
  refine cy ?_;exact bA I
 | true=>
  refine cy ?_;exact bA I
end Go.Proofs.YtnafpeohfbglmaaGreat
namespace Go.Proofs.YtnafpeohfbglmaaGreat
open Go.bj Go.bY
theorem VE (f:FuncId) (cap:List ad) (xs:List Nat) (aI:xs.length<bt) (mL:vM Tryz.prog f [] cap [] pK xs):a7 Tryz.prog 162 [.func f [] cap] (.aA 1 (xs.map pK) .bd):=by
 have aE:=bu.AR (VB f cap xs aI mL);refine a7.bp ak call162 Tryz.func162 C C fun s I=>?_
 refine cy ?_;exact bA I
theorem VF (p:b9) (aN:gS p) (eD:hg p=true) (mb:Nat) (n:Int) (bh:List eW) (args:List (Int×Int)) (aI:bh.length<bt) (ag:∀ o∈bh,o.bx.length<bt) (aV:args.length<bt) :
    a7 Tryz.prog 120 [.bq (ll p mb) 0,gl bh,.int .i64 n,jU args] (bI (FX p bh n args)):=by
  have an:=bQ;have gQ:=aN.BL;have gC:=LN n p.methods 0;have XE:=VA p mb n;have BV:=VE 196 [.bq [.bq (ll p mb) 0] 0,.bq [.int .i64 n] 0] (lX n 0 p.methods) ai (Vz p aN mb n)
  have FY:=Vn (.func 164 [] [.bq [.bq (ll p mb) 0] 0,.bq [gl bh] 0,.bq [jU args] 0]) (zs p bh args) ((lX n 0 p.methods).map fun i:Nat=>(i:Int)) nL (fun x ab=>by
    obtain ⟨j,aS,rfl⟩:=List.mem_map.1 ab
    have:=(LO n p.methods 0 j aS).2
    exact VD p aN eD mb bh args aI ag aV j ai)
  have he:((lX n 0 p.methods).map fun i:Nat=>(i:Int)).map bg=(lX n 0 p.methods).map pK:=by rw [List.map_map];rfl
  rw [he] at FY;refine a7.bp ak call120 Tryz.func120 C C fun s I=>?_
  unfold FX bI;refine cy ?_;exact bA I
def vc (p:b9) (bh:List eW) (n:Int) (args:List (Int×Int)):Bool:=hg p&&uU p bh n args
def B9 (p:b9) (bh:List eW) (n:Int) (args:List (Int×Int)):ad := .cl [if vc p bh n args then bI (FX p bh n args) else .aA 0 [] .nil,.int .i64 (if vc p bh n args then 0 else 2)]
theorem VG (n:Int) (bh:List eW) (args:List (Int×Int)):a7 Tryz.prog 119 [.oM,gl bh,.int .i64 n,jU args] (.bool false):=by
 have ao:=Vq n;refine a7.bp ak call119 Tryz.func119 C C fun s I=>?_
 unfold gl jU;refine cy ?_;exact bA I
theorem VH (p:b9) (aN:gS p) (n:Int) (bh:List eW) (args:List (Int×Int)) (aI:bh.length<bt) (ag:∀ o∈bh,o.bx.length<bt) (aV:args.length<bt):a7 Tryz.prog 72 [ee p,gl bh,.int .i64 n,jU args] (B9 p bh n args):=by
 have an:=bQ;refine a7.bp ak call72 Tryz.func72 C C fun s I=>?_
 have hB:vc p bh n args=(hg p&&uU p bh n args):=rfl;unfold B9;cases eD:hg p with
 | false=>
  rw [eD,Bool.false_and] at hB;rw [hB];have az:=Vu p aN eD;have aE:=VG n bh args;unfold ee dC at *;refine cy ?_;exact bA I
 | true=>
  rw [eD,Bool.true_and] at hB;have az:=VC p aN eD;unfold ee dC at *;refine dF ?_;refine aa.b0 rfl rfl rfl rfl rfl az I .nil ?_ (fun _ _ h _=>by obtain ⟨_,h,_⟩:=h;cases h);rintro _ _ ⟨mb,⟨⟩,rfl⟩ I;have aE:=Vv p aN eD mb n bh args aI ag aV;have zt:=VF p aN eD mb n bh args aI ag aV;cases lW:uU p bh n args with
  | false=>
   rw [lW] at hB aE;rw [hB];refine cy ?_;exact bA I
  | true=>
   rw [lW] at hB aE;rw [hB];refine cH ?_;exact bA I
end Go.Proofs.YtnafpeohfbglmaaGreat
namespace Go.Proofs.YtnafpeohfbglmaaGreat
open Go.bj Go.bY
def s6 (w:bT) (bh:List eW) (args:List (Int×Int)) (f:ax):Bool:=(mr w f bh args).2==0&&(mr w f bh args).1
def s7 (q:ax→Bool):Nat→List ax→Nat→Nat
 | _,[],v=>v
 | i,f::r,v=>s7 q (i+1) r (if q f then v|||2^i else v)
theorem LP (q:ax→Bool):∀ (l:List ax) (i v:Nat),v<2^i→s7 q i l v<2^(i+l.length)
  | [],i,v,h=>h
  | f::r,i,v,h=>by
    have U:(if q f then v|||2^i else v)<2^(i+1):=by
      have ae:2^i<2^(i+1):=Nat.pow_lt_pow_right ai ai;split
      · exact Nat.or_lt_two_pow ai ae
      · omega
    have:=LP q r (i+1) _ U;rw [s7,List.length_cons,show i+(r.length+1)=i+1+r.length by omega];exact this
def zu (p:b9) (bh:List eW) (n:Int) (args:List (Int×Int)):Nat:=s7 (s6 (cu p) bh args) 0 (cI p n) 0
def s8 (p:b9) (bh:List eW) (n:Int) (args:List (Int×Int)) (g:List bC):Int:=
 if !(vc p bh n args) || !fP g then 2 else if e3 p n=0 then (if yO p n g then 0 else 7) else e3 p n
def FZ (p:b9) (bh:List eW) (n:Int) (args:List (Int×Int)) (g:List bC):ad:=
 .cl [if s8 p bh n args g=0 then bI (g.getD (leads g (zu p bh n args)).1.toNat default).ms else .aA 0 [] .nil,.int .i64 (if s8 p bh n args g=0 then ((leads g (zu p bh n args)).2:Int) else 0),.int .i64 (s8 p bh n args g)]
theorem VI {g:List bC} (h:fP g=true):∀ x∈g,x.ms.length≤16:=fun x ab=>by
 obtain ⟨i,aY⟩:=List.getElem?_of_mem ab;have aC:=ry h aY;by_cases aV:x.atom = -1
 ·exact ((lM aV).1 aC).2.2.1
 ·have:=((iS aV).1 aC).2.2.2.2.2.2
  omega
theorem VJ {i:Nat} (h:i≤7):IntKind.wrap .i64 (1*2^(min (i:Int).toNat (IntKind.bits .i64)))=((2^i:Nat):Int):=FO h
theorem VK (p:b9) (aN:gS p) (n:Int) (bh:List eW) (args:List (Int×Int)) (aI:bh.length<bt) (ag:∀ o∈bh,o.bx.length<bt) (sD:args.length<bt) (g:List bC) (ao:g.length<bt):a7 Tryz.prog 22 [ee p,gl bh,.int .i64 n,jU args,eR g] (FZ p bh n args g):=by
 have an:=bQ;refine a7.bp ak call22 Tryz.func22 C C fun s I=>?_
 have zt:=VH p aN n bh args aI ag sD;have ba:=DS g ao;have aV:=zf p aN n;have eu:s8 p bh n args g=if !(vc p bh n args) || !fP g then 2 else if e3 p n=0 then (if yO p n g then 0 else 7) else e3 p n:=rfl
 unfold FZ;cases hB:vc p bh n args with
 | false=>
  rw [hB] at eu;have eu:s8 p bh n args g=2:=eu;unfold B9 at zt;rw [hB,if_neg bn,if_neg bn] at zt;rw [eu,if_neg bn,if_neg bn];unfold ee dC gl jU eR at *;refine cy ?_;exact bA I
 | true=>
 have eD:hg p=true:=by unfold vc at hB;rw [Bool.and_eq_true] at hB;exact hB.1
 unfold B9 at zt;rw [hB,if_pos C,if_pos C] at zt;cases gD:fP g with
 | false=>
  rw [hB,gD] at eu;have eu:s8 p bh n args g=2:=eu;rw [gD] at ba;rw [eu,if_neg bn,if_neg bn];unfold ee dC gl jU eR at *;refine cy ?_;exact bA I
 | true=>
 rw [hB,gD] at eu;have eu:s8 p bh n args g=if e3 p n=0 then (if yO p n g then 0 else 7) else e3 p n:=eu
 rw [gD] at ba;unfold ee dC gl jU eR at *;refine cy ?_;refine aa.b0 rfl rfl rfl rfl rfl aV I .nil ?_ (fun _ _ h _=>by rcases h with ⟨_,_,_,_,h,_⟩|⟨_,⟨_,h⟩,_⟩<;>cases h);rintro _ _ (⟨he,cd,an,cm,⟨⟩,rfl⟩|⟨he,⟨v,⟨⟩⟩,rfl⟩) I;rotate_left
 ·rw [if_neg he] at eu
  rw [eu,if_neg he,if_neg he];simp only [List.nil_append] at I ⊢;refine cC ?_;refine af.cond C (fun _=>?_) (fun h=>absurd gn he);refine j' ?_;exact bA I
 rw [if_pos he] at eu;obtain ⟨eD,gT,cU,eT,fV⟩:=rU he;have az:=Vk p aN eD n (cI p n) an cm cd gT cU eT fV g gD;have CJ:(g.all (fun x=>decide (x.atom<((cI p n).length:Int)))&&(hO (cu p) (cI p n)).all (s5 p n (cI p n) g))=yO p n g:=rfl;rw [CJ] at az;unfold dI eR at az;simp only [List.cons_append,List.nil_append] at I ⊢;refine bP ?_;refine aa.b0 rfl rfl rfl rfl rfl az I bM ?_ (fun _ _ ⟨h,_⟩ _=>by cases h);rintro _ _ ⟨⟨⟩,Bo,m,rfl⟩ I;simp only [List.cons_append,List.nil_append] at I ⊢;cases Ar:yO p n g with
 | false=>
  rw [Ar,if_neg bn] at eu;rw [eu,if_neg bn,if_neg bn];refine cC ?_;exact bA I
 | true=>
 rw [Ar,if_pos C] at eu;rw [eu,if_pos C,if_pos C];have B8:zu p bh n args=s7 (s6 (cu p) bh args) 0 (cI p n) 0:=rfl;have fa:=LP (s6 (cu p) bh args) (cI p n) 0 0 bn;rw [Nat.zero_add] at fa;have w2:2^(cI p n).length≤2^7:=Nat.pow_le_pow_right ai gT;rw [← B8] at fa;generalize zu p bh n args=view at *;have qt:=JL g gD view ai;obtain ⟨LQ,zv,g1,g2,-⟩:=JN gD view;have jI:zv.ms.length≤16:=(VI gD) zv (List.mem_of_getElem? g2);have cE:=yk zv.ms .bd ai;have o0:(g.map de)[LQ]? = some (de zv):=by rw [List.getElem?_map,g2];rfl
 rw [g1] at qt ⊢;rw [Int.toNat_natCast,show g.getD LQ default=zv by rw [List.getD_eq_getElem?_getD,g2];rfl];unfold eR at qt;unfold de fj at o0;unfold dx c8 at I ⊢;generalize eG:cI p n=l at *;refine gu I ?_;intro I;refine af.cT [1,3,4,15,55,56] C I (σ:=Nat×Nat) (fun q=>[(57,.int .i64 (q.1:Int)),(17,.int .i64 (q.2:Int))]) (fun _=>[dI p n (c8 l) Bo an cm cd]) (fun q=>q.1≤l.length∧q.2<2^q.1∧view=s7 (s6 (cu p) bh args) q.1 (l.drop q.1) q.2) (fun q=>l.length-q.1) (0,0) ⟨Nat.zero_le _,by simp,B8⟩ (c3 C) LI ?_;rintro ⟨j,v⟩ ⟨aS,av,aH⟩ I;simp only [dI,dx,c8] at aS av aH I ⊢;have XF:2^j≤2^7:=Nat.pow_le_pow_right ai ai;refine cL ?_;refine af.cond C (fun aG=>?_) (fun bk=>?_);rotate_left
 ·have bk:j=l.length:=by simp at bk;omega
  rw [fC ai,s7] at aH;subst aH;refine cH ?_;exact bA I
 have aG:j<l.length:=by simpa using aG
 obtain ⟨f,ab,ch⟩:=cD (f:=ax.cj) aG;have qF:=cU f (List.mem_of_getElem? ab);have Ls:f.size<bt:=by
  have U:=f.size_eq;have ae:=s4 qF.1 qF.2;have al:=zm qF.1 qF.2;rw [al,ax.jy] at U;omega
 have sC:=Ef (cu p) (ze eD) f Ls bh args aI ag sD;rw [drop_cons ab,s7] at aH;have j9:s6 (cu p) bh args f=((mr (cu p) f bh args).2==0&&(mr (cu p) f bh args).1):=rfl;generalize mr (cu p) f bh args=r at sC j9;obtain ⟨ix,b8⟩:=r;rw [ax.cO] at ch sC;unfold ax.cells iR hf gl jU at *;simp only at j9 sC;by_cases bB:b8=0
 ·subst bB
  cases ix with
  | true=>
   have j9:s6 (cu p) bh args f=true:=j9;rw [j9,if_pos C] at aH
   repeat (first|(refine O0 I ?_;clear I;intro I)|refine aa.dE ak I rfl rfl rfl rfl rfl rfl rfl (fun cv I=>?_)|(refine Dr I ?_;clear I;intro I))
   refine aa.shl ((2^j:Nat):Int) C C C C C C ai (VJ ai) ?_;refine aa.bits _ C C C C C C (Pk ai ai) ?_;refine h8 ?_;exact bX.mk (j+1,v|||2^j) I ⟨aG,Nat.or_lt_two_pow (by rw [Nat.pow_succ];omega) (Nat.pow_lt_pow_right ai ai),aH⟩ c7 bM uH
  | false=>
   have j9:s6 (cu p) bh args f=false:=j9;rw [j9,if_neg bn] at aH
   repeat (first|(refine O1 I ?_;clear I;intro I)|refine aa.dE ak I rfl rfl rfl rfl rfl rfl rfl (fun cv I=>?_)|(refine Dr I ?_;clear I;intro I))
   exact bX.mk (j+1,v) I ⟨aG,by show v<2^(j+1);rw [Nat.pow_succ];omega,aH⟩ c7 bM uH
 ·have j9:s6 (cu p) bh args f=false:=by rw [j9,show (b8==0)=false from beq_eq_false_iff_ne.2 bB,Bool.false_and]
  rw [j9,if_neg bn] at aH
  repeat (first|(refine O2 I ?_;clear I;intro I)|refine aa.dE ak I rfl rfl rfl rfl rfl rfl rfl (fun cv I=>?_)|(refine Dr I ?_;clear I;intro I))
  refine aa.dR 75 C (beq_eq_false_iff_ne.2 bB) ?_;refine bP ?_;exact bX.mk (j+1,v) I ⟨aG,by show v<2^(j+1);rw [Nat.pow_succ];omega,aH⟩ c7 bM uH
end Go.Proofs.YtnafpeohfbglmaaGreat
namespace Go.Proofs.YtnafpeohfbglmaaGreat
open Go.bj Go.bY
def ep (ws:List Nat) (u:Nat):Bool:=ws.contains u
theorem VL {vs:List Nat} {q:Nat→Bool} {v:Nat} (h:v∈vs):ep (vs.filter q) v=q v:=by
 unfold ep;rw [Bool.eq_iff_iff,List.contains_iff_mem,List.mem_filter];exact ⟨fun h=>h.2,fun ae=>⟨h,ae⟩⟩
def h' (vs ws:List Nat):Prop:=∃ q,ws=vs.filter q
theorem h'.all (vs:List Nat):h' vs vs:=⟨fun _=>true,(List.filter_eq_self.2 fun _ _=>rfl).symm⟩
theorem h'.filter {vs ws:List Nat} (h:h' vs ws) (q:Nat→Bool):h' vs (ws.filter q):=by
 obtain ⟨r,rfl⟩:=h;exact ⟨_,List.filter_filter⟩
theorem h'.mem {vs ws:List Nat} (h:h' vs ws) {v:Nat} (av:v∈ws):v∈vs:=by
 obtain ⟨r,rfl⟩:=h;exact (List.mem_filter.1 av).1
theorem h'.len {vs ws:List Nat} (h:h' vs ws):ws.length≤vs.length:=by
 obtain ⟨r,rfl⟩:=h;exact List.length_filter_le _ _
theorem h'.self {vs ws:List Nat} (h:h' vs ws):vs.filter (ep ws)=ws:=by
 obtain ⟨r,rfl⟩:=h;exact List.filter_congr fun v av=>VL av
theorem h'.inj {vs ws zw:List Nat} (eh:∀ v∈vs,v<128) (h:h' vs ws) (fs:h' vs zw) (he:iW (ep ws)=iW (ep zw)):ws=zw:=by
 have:=UZ he;rw [← h.self,← fs.self];exact List.filter_congr fun v av=>this v (eh v av)
theorem LR {vs ws:List Nat} (eh:∀ v∈vs,v<128) (h:h' vs ws):(iW (ep ws)==[0,0])=ws.isEmpty:=by
 rw [Bool.eq_iff_iff,beq_iff_eq,List.isEmpty_iff,← U0];constructor
 ·intro he
  have bB:h' vs []:=⟨fun _=>false,by simp⟩;exact h.inj eh bB he
 ·rintro rfl
  rfl
def pL (A:Nat) (h:Nat→List Int) (vs:List Nat) (M:List (List Int×ad)):Prop:=∀ e∈M,∃ ws,h' vs ws∧e=(iW (ep ws),jW (fQ A h ws))
theorem pL.len {A:Nat} {h:Nat→List Int} {vs:List Nat} {M:List (List Int×ad)} (jg:pL A h vs M):∀ e∈M,e.1.length=2:=fun e he=>by
 obtain ⟨ws,_,rfl⟩:=jg e he;rfl
theorem pL.find {A:Nat} {h:Nat→List Int} {vs ws:List Nat} {M:List (List Int×ad)} {e:List Int×ad} (eh:∀ v∈vs,v<128) (jg:pL A h vs M) (hw:h' vs ws) (ba:M.find? (fun e=>e.1==iW (ep ws))=some e):e.2=jW (fQ A h ws):=by
 obtain ⟨zw,U,ae⟩:=jg e (List.mem_of_find?_eq_some ba);have al:=List.find?_some ba;rw [ae] at al ⊢;rw [U.inj eh hw (by simpa using al)]
theorem pL.add {A:Nat} {h:Nat→List Int} {vs ws:List Nat} {M:List (List Int×ad)} (jg:pL A h vs M) (hw:h' vs ws):pL A h vs (M++[(iW (ep ws),jW (fQ A h ws))]):=fun e he=>by
 rcases List.mem_append.1 he with he|he
 ·exact jg e he
 ·rw [List.mem_singleton.1 he];exact ⟨ws,hw,rfl⟩
def jC (vs:List Nat) (M kQ:List (List Int×ad)) (k:Nat):Prop:=∀ e∈kQ,e∈M∨∃ ws,h' vs ws∧ws.length<k∧e.1=iW (ep ws)
theorem jC.refl (vs:List Nat) (M:List (List Int×ad)) (k:Nat):jC vs M M k:=fun _ h => .inl h
theorem jC.trans {vs:List Nat} {M kQ LS:List (List Int×ad)} {k k':Nat} (h:jC vs M kQ k) (fs:jC vs kQ LS k') (aD:k'≤k):jC vs M LS k:=fun e he=>by
 rcases fs e he with U|⟨ws,U,ae,al⟩
 ·exact h e U
 ·exact .inr ⟨ws,U,by omega,al⟩
theorem jC.add {vs ws:List Nat} {M kQ:List (List Int×ad)} {k:Nat} {x:ad} (h:jC vs M kQ k) (hw:h' vs ws) (aD:ws.length<k):jC vs M (kQ++[(iW (ep ws),x)]) k:=fun e he=>by
 rcases List.mem_append.1 he with he|he
 ·exact h e he
 ·rw [List.mem_singleton.1 he];exact .inr ⟨ws,hw,aD,rfl⟩
theorem jC.mono {vs:List Nat} {M kQ:List (List Int×ad)} {k k':Nat} (h:jC vs M kQ k) (aD:k≤k'):jC vs M kQ k':=fun e he=>by
 rcases h e he with U|⟨ws,U,ae,al⟩
 ·exact .inl U
 ·exact .inr ⟨ws,U,by omega,al⟩
theorem jC.none {vs ws:List Nat} {M kQ:List (List Int×ad)} (eh:∀ v∈vs,v<128) (h:jC vs M kQ ws.length) (hw:h' vs ws) (ba:M.find? (fun e=>e.1==iW (ep ws))=none):kQ.find? (fun e=>e.1==iW (ep ws))=none:=by
 rw [List.find?_eq_none] at ba ⊢;intro e he;rcases h e he with U|⟨zw,U,ae,al⟩
 ·exact ba e U
 ·rw [al]
  intro aC;have:=U.inj eh hw qC;rw [this] at ae;exact absurd ae (Nat.lt_irrefl _)
def w5:Option ca→ad
 | none => .mz
 | some t=>jW t
theorem w6 {ws:List Nat} {u:Nat}:ep ws u=true↔u∈ws:=List.contains_iff_mem
theorem VM {vs ws:List Nat} (hw:h' vs ws) (i u:Nat):(ep ws u&&ep (vs.filter fun v=>v.testBit i) u)=ep (fE i ws) u:=by
 rw [Bool.eq_iff_iff,Bool.and_eq_true,w6,w6,w6,fE,List.mem_filter,List.mem_filter];exact ⟨fun h=>⟨h.1,h.2.2⟩,fun h=>⟨h.1,hw.mem h.1,h.2⟩⟩
theorem VN {vs ws:List Nat} (hw:h' vs ws) (i u:Nat):(ep ws u && !ep (vs.filter fun v=>v.testBit i) u)=ep (fF i ws) u:=by
 rw [Bool.eq_iff_iff,Bool.and_eq_true,Bool.not_eq_true',Bool.eq_false_iff,w6,ne_eq,w6,w6,fF,List.mem_filter,List.mem_filter];refine ⟨fun h=>⟨h.1,?_⟩,fun h=>⟨h.1,fun ae=>?_⟩⟩
 ·cases an:u.testBit i with
  | false=>rfl
  | true=>exact absurd ⟨hw.mem h.1,an⟩ h.2
 ·have:=h.2
  rw [ae.2] at this;cases this
theorem VO {vs:List Nat} {i j v:Nat} (av:vs[j]? = some v):(fun u=>ep ((vs.take (j+1)).filter fun v=>v.testBit i) u)=(fun u=>ep ((vs.take j).filter fun v=>v.testBit i) u||(v.testBit i&&u==v)):=by
 funext u;rw [List.take_add_one,av,List.filter_append];unfold ep;rw [List.contains_append];congr 1;show List.contains (List.filter (fun v=>v.testBit i) [v]) u=_;rw [List.filter_cons,List.filter_nil];cases v.testBit i with
 | true=>simp;rfl
 | false=>simp
end Go.Proofs.YtnafpeohfbglmaaGreat
namespace Go.bj
section
variable {P:Program} {N:Nat} {env:Env} {s:aj} {o:Oper}
theorem aU.B' {t yt:TypeId} {x y:Operand} {k:IntKind} {n:Nat} {xs ys:List Int} (gR:qi P t k n) (bs:P.eqGuardType P.depth t=false) (ag:o.op = .binOp .eql t x y yt) (ab:aJ env x=some (ji k xs)) (ay:aJ env y=some (ji k ys)) (U:xs.length=n) (ae:ys.length=n) :
  aU P N o env s (fun v ah=>v = .bool (xs==ys)∧ah=s) (fun _ _=>False):=by
 refine aU.l2 h6 fun ro B cR w p aF=>?_
 have b8:=yx (aF.aJ ab);have bZ:=yx (aF.aJ ay);refine r9 (v := .bool (xs==ys)) ag ?_ ?_ (.bool _)
 ·rw [b8,bZ]
  unfold eqGuard nJ;simp [Sem.run_bind,bs]
 ·rw [b8,bZ]
  have:=gR.eq xs ys U ae w;unfold nJ at this ⊢;simp only [binOp,Sem.run_bind,this,Result.andThen_ok,Sem.run_pure]
end
section
variable {P:Program} {N:Nat} {ops:Array Oper} {Q:b2→Env→aj→Prop} {env:Env} {s:aj} {l:List Oper} {o:Oper} {d:Nat}
theorem aa.B' {t yt:TypeId} {x y:Operand} {k:IntKind} {n:Nat} {xs ys:List Int} (gR:qi P t k n) (bs:P.eqGuardType P.depth t=false) (ao:guardOf ops env o=some true) (ar:o.dst=some d) (aX:Nat.blt d N=true) (ag:o.op = .binOp .eql t x y yt) (ab:aJ env x=some (ji k xs)) (ay:aJ env y=some (ji k ys)) (U:xs.length=n) (ae:ys.length=n)
  (h:aa P N ops l Q ((d,.bool (xs==ys))::env) s):aa P N ops (o::l) Q env s:=
 aa.op ao ar aX (aU.B' gR bs ag ab ay U ae) (fun x ah ⟨U,ae⟩=>by subst U;subst ae;exact h) (fun _ _ h=>h.elim)
end
end Go.bj
namespace Go.Proofs.YtnafpeohfbglmaaGreat
open Go.bj Go.bY
theorem zx:qi Tryz.prog 106 .u64 2:=by
 refine ⟨by kernel_rfl,fun e xs ab w=>?_,fun xs ys ab ay w=>?_⟩
 ·obtain ⟨a,b,rfl⟩:=two ab
  kernel_rfl
 ·obtain ⟨a,b,rfl⟩:=two ab
  obtain ⟨cR,aT,rfl⟩:=two ay;have hint:(Tryz.prog).underlying 104 = some (.int .u64):=by kernel_rfl
  obtain ⟨info,aY⟩:=info_of_underlying hint;have yA:=Jc (T := 106) (e := 104) (k := .u64) aq aY aq hint (fun a b w=>⟨by kernel_rfl,by kernel_rfl⟩) 9998 a b cR aT w;have av:∀ a b:Int,nJ .u64 [a,b] = .agg #[.int .u64 a,.int .u64 b]:=fun _ _=>rfl
  rw [av,av];unfold Op.equal;exact yA
theorem LU:(Tryz.prog).eqGuardType (Tryz.prog).depth 106 = false:=by kernel_rfl
def ia (p:b9) (n:Int) (l:List ax) (an cm cd:Nat) (vs:List Nat) (M:List (List Int×ad)):a6:=[dI p n (c8 l) (.aA 1 (iw vs) .bd) an cm cd,(.own an,.map (zp p n l vs)),(.own cm,.map (ld .u64 M))]
theorem VP (p:b9) (n:Int) (l:List ax) (an cm cd:Nat) (vs:List Nat) (eh:∀ v∈vs,v<2^l.length) (gT:l.length≤7) (fa:vs.length≤128) (gQ:p.methods.length≤16):∀ (k:Nat) (ws:List Nat),ws.length≤k→h' vs ws→∀ M,pL l.length (dw p n l) vs M →
  bu Tryz.prog 62 [.ptr cd 0,jx (ep ws)] (ia p n l an cm cd vs M) (fun o K=>∃ kQ,pL l.length (dw p n l) vs kQ∧jC vs M kQ (ws.length+1)∧o = .ret (jW (fQ l.length (dw p n l) ws))∧K=ia p n l an cm cd vs kQ):=by
 have k0:bt=1099511627776:=rfl;have w2:2^l.length≤2^7:=Nat.pow_le_pow_right ai gT;have w7:∀ v∈vs,v<128:=fun v h=>by have:=eh v h;omega
 intro k
 induction k using Nat.strongRecOn with
 | ind k a'=>
 intro ws aD hw M jg;have jm:=jg.len;have F0:=Vf p n l an cm cd vs w7 fa gQ (ep ws);rw [hw.self] at F0;have vd:=EL l.length (dw p n l) ws;have qd:=hw.len;refine bu.bp ak call62 Tryz.func62 C C fun s I=>?_
 unfold ia dI dx c8 jx at *;refine gu I ?_;intro I;refine aM.wh ak I (xs:=iW (ep ws)) (es:=M) zx C C C C C C C C C C jm a1 C ?_;cases ba:M.find? (fun e=>e.1==iW (ep ws)) with
 | some e=>
  rw [Option.map_some,jg.find w7 hw ba];refine cy ?_;exact Fin.bH I C aR (au.all _) ⟨M,jg,jC.refl _ _ _,rfl,rfl⟩
 | none=>
 rw [Option.map_none];refine cy ?_;unfold oI dI dx c8 at F0;refine aa.b0 rfl rfl rfl rfl rfl F0 I bM ?_ (fun _ _ ⟨h,_⟩ _=>by cases h);rintro _ _ ⟨⟨⟩,rfl⟩ I;simp only [List.nil_append,List.cons_append] at I ⊢;cases aV:pv (dw p n l) ws with
 | true=>
  rw [aV,if_pos C] at vd;rw [if_pos C];refine gu I ?_;intro I;refine aM.yy ak I (xs:=iW (ep ws)) (es:=M) zx C C C (.inl C) C C C C C C jm a1 ba (fun I=>?_);refine j' ?_;exact Fin.bH (K:=ia p n l an cm cd vs (M++[(iW (ep ws),jW (fQ l.length (dw p n l) ws))])) I C aR (by rw [vd];exact (by simp only [ia,dI,dx,c8];repeat (first|exact au.nil|(apply au.cons;· repeat (first|exact aP.here|apply aP.there))))) ⟨_,jg.add hw,(jC.refl _ _ _).add hw (Nat.lt_succ_self _),by rw [vd];rfl,rfl⟩
 | false=>
 rw [aV,if_neg bn] at vd;rw [if_neg bn];obtain ⟨XG,zy⟩:=Sn (A:=l.length) (h:=dw p n l) (vs:=ws) (fun v h=>eh v (hw.mem h)) aV (fQ l.length (dw p n l));rw [zy,Option.getD_some] at vd;refine gu I ?_;intro I;refine af.cT [0,3,50] C I (σ:=Nat×Option ca×List (List Int×ad)) (fun q=>[(51,.int .i64 (q.1:Int)),(9,w5 q.2.1)]) (fun q=>ia p n l an cm cd vs q.2.2)
  (fun q=>q.1≤l.length∧pL l.length (dw p n l) vs q.2.2∧jC vs M q.2.2 ws.length∧(∀ t,q.2.1=some t→t.leaves≤128)∧(List.range l.length).foldl (kN (fQ l.length (dw p n l)) ws) none=(List.range' q.1 (l.length-q.1)).foldl (kN (fQ l.length (dw p n l)) ws) q.2.1) (fun q=>l.length-q.1) (0,none,M)
  ⟨Nat.zero_le _,jg,jC.refl _ _ _,(fun _ h=>by cases h),by rw [List.range_eq_range'];rfl⟩ (c3 C) (by simp only [ia,dI,dx,c8];repeat (first|exact au.nil|(apply au.cons;· repeat (first|exact aP.here|apply aP.there)))) ?_
 rintro ⟨i,out,rV⟩ ⟨aY,ve,s9,gC,aH⟩ I;simp only [ia,dI,dx,c8] at aY ve s9 gC aH I ⊢;have FY:=jC.none w7 s9 hw ba;have VQ:=ve.len;refine cL ?_;refine af.cond C (fun aG=>?_) (fun bk=>?_);rotate_left
 ·have bk:i=l.length:=by simp at bk;omega
  rw [bk,Nat.sub_self,List.range'_zero,List.foldl_nil,zy] at aH;subst aH;unfold w5;refine rj I ?_;intro I;refine aM.yy ak I (xs:=iW (ep ws)) (es:=rV) zx C C C (.inl C) C C C C C C VQ a1 FY (fun I=>?_);refine nv ?_;exact Fin.bH (K:=ia p n l an cm cd vs (rV++[(iW (ep ws),jW (fQ l.length (dw p n l) ws))])) I C aR (by rw [vd];exact (by simp only [ia,dI,dx,c8];repeat (first|exact au.nil|(apply au.cons;· repeat (first|exact aP.here|apply aP.there))))) ⟨_,ve.add hw,(s9.mono (Nat.le_succ _)).add hw (Nat.lt_succ_self _),by rw [vd],rfl⟩
 have aG:i<l.length:=by simpa using aG
 rw [show l.length-i=(l.length-(i+1))+1 by omega,List.range'_succ,List.foldl_cons] at aH;have gw:kN (fQ l.length (dw p n l)) ws out i=if (fE i ws).isEmpty||(fF i ws).isEmpty then out else uT out (.test i (fQ l.length (dw p n l) (fF i ws)) (fQ l.length (dw p n l) (fE i ws))):=rfl
 repeat (first|(refine O3 I ?_;clear I;intro I)|refine aa.dE ak I rfl rfl rfl rfl rfl rfl rfl (fun cv I=>?_))
 obtain ⟨iu,rfl⟩:∃ x,x=cv:=⟨_,rfl⟩;have F1:(fun u=>ep ((vs.take 0).filter fun v=>v.testBit i) u)=fun _=>false:=rfl
 refine af.cT [0,3,50,51,9,10,11,57,58] C I (σ:=Nat) (fun j=>[(59,.int .i64 (j:Int))]) (fun j=>(.own iu,.box 106 [.int .u64 (fm (fun u=>ep ((vs.take j).filter fun v=>v.testBit i) u) 0 64:Nat),.int .u64 (fm (fun u=>ep ((vs.take j).filter fun v=>v.testBit i) u) 64 64:Nat)])::ia p n l an cm cd vs rV) (fun j=>j≤vs.length) (fun j=>vs.length-j) 0 (Nat.zero_le _) (c3 C) (by
  simp only [F1,zo (fun _=>rfl),ia,dI,dx,c8]
  exact bM) ?_
 rintro j aS I;simp only [ia,dI,dx,c8] at aS I ⊢;refine cL ?_;refine af.cond C (fun c6=>?_) (fun bk=>?_)
 ·have c6:j<vs.length:=by simpa [iw] using c6
  obtain ⟨v,av,nU⟩:=cD (f:=fun v:Nat=>ad.int .i64 (v:Int)) c6;have F2:=w7 v (List.mem_of_getElem? av);have mo:=VO (i:=i) av;have Ca:=Lz (fun u=>ep ((vs.take j).filter fun v=>v.testBit i) u) v F2;unfold jx at Ca;unfold iw at I ⊢;refine fA ?_;refine aa.shr _ C C C C C C ai (so ai) ?_;refine aa.bits _ C C C C C C (AJ (n:=1) (Nat.lt_of_le_of_lt (Nat.shiftRight_le v i) ai) ai) ?_;refine hv ?_;have qf:=FN v i;cases nq:v.testBit i with
  | true=>
   simp only [nq,Bool.true_and] at mo;refine af.cond C (fun _=>?_) (fun h=>by rw [qf,nq] at h;cases h);refine gu I ?_;intro I;exact bX.mk (j+1) I c6 c7 (by simp only [mo];exact bM) w4
  | false=>
   simp only [nq,Bool.false_and,Bool.or_false] at mo;refine af.cond C (fun h=>by rw [qf,nq] at h;cases h) (fun _=>?_);refine gi ?_;exact bX.mk (j+1) I c6 c7 (by simp only [mo];exact bM) w4
 have bk:j=vs.length:=by simp [iw] at bk;omega
 subst bk;rw [List.take_length] at I ⊢;have hand:=U1 (ep ws) (fun u=>ep (vs.filter fun v=>v.testBit i) u);have F3:=U2 (ep ws) (fun u=>ep (vs.filter fun v=>v.testBit i) u);simp only [VM hw i,VN hw i] at hand F3;unfold jx at hand F3;refine af.lG I 11 iu C .here (fun I=>?_);refine tX ?_;refine af.tW (σ:=Nat×Nat) (fun z=>[(0,.ptr cd 0),(3,.bq [.int .u64 (fm (ep ws) 0 64:Nat),.int .u64 (fm (ep ws) 64 64:Nat)] 0),(50,.int .i64 ((l.map ax.cj).length:Int)),(51,.int .i64 (i:Int)),(9,w5 out),(10,.int .i64 (i:Int)),(14,.ptr z.1 0),(15,.ptr z.2 0)]) (fun z=>(.own z.1,.box 106 [.int .u64 (fm (ep (fE i ws)) 0 64:Nat),.int .u64 (fm (ep (fE i ws)) 64 64:Nat)])::(.own z.2,.box 106 [.int .u64 (fm (ep (fF i ws)) 0 64:Nat),.int .u64 (fm (ep (fF i ws)) 64 64:Nat)])::ia p n l an cm cd vs rV) (fun _=>True) ?_ ?_
 ·refine af.re ak mixed C (bf.run C ?_)
  refine bf.Dg (i:=2) C C C C C C C hand ?_;refine bf.run C ?_;refine bf.Dg (i:=5) C C C C C C C F3 ?_;refine bf.run C ?_;refine bf.many C (gO.c (ja.mk (i:=6) C C C C (aU.dE ak I C C C C (X:=fun _ _=>False)) ?_ (fun _ _ h=>h.elim)) (gO.c (ja.mk (i:=7) C C C C (aU.dE ak I C C C C (X:=fun _ _=>False)) ?_ (fun _ _ h=>h.elim)) gO.n))
  ·rintro _ _ ⟨zz,rfl,rfl,I⟩
   refine bf.dE 7 ak I C C C C C C C C C (fun pD I=>?_);refine bf.run C ?_;refine bf.cF 8 ak I C C C C C C C C C C C a1 b3 (fun I=>?_);refine bf.run C ?_;refine bf.cF 9 ak I C C C C C C C C C C C a1 b3 (fun I=>?_);refine bf.run C ?_;refine bf.done C ?_;exact jN.mk (zz,pD) I trivial (c3 C) (by simp only [ia,dI,dx,c8,iw];repeat (first|exact au.nil|(apply au.cons;· repeat (first|exact aP.here|apply aP.there))))
  ·rintro _ _ ⟨pD,rfl,rfl,I⟩
   refine bf.dE 6 ak I C C C C C C C C C (fun zz I=>?_);refine bf.run C ?_;refine bf.cF 8 ak I C C C C C C C C C C C a1 b3 (fun I=>?_);refine bf.run C ?_;refine bf.cF 9 ak I C C C C C C C C C C C a1 b3 (fun I=>?_);refine bf.run C ?_;refine bf.done C ?_;exact jN.mk (zz,pD) I trivial (c3 C) (by simp only [ia,dI,dx,c8,iw];repeat (first|exact au.nil|(apply au.cons;· repeat (first|exact aP.here|apply aP.there))))
 rintro ⟨zz,pD⟩-I;unfold ia dI dx c8 at I ⊢;refine af.lG I 14 zz C .here (fun I=>?_);refine af.lG I 15 pD C .here (fun I=>?_);have cY:=LR w7 (hw.filter fun v=>v.testBit i);have ri:=LR w7 (hw.filter fun v => !v.testBit i);rw [show ws.filter (fun v=>v.testBit i)=fE i ws from rfl] at cY;rw [show ws.filter (fun v => !v.testBit i)=fF i ws from rfl] at ri;refine k3 ?_;refine aa.B' zx LU (xs:=iW (ep (fE i ws))) (ys:=[0,0]) C C C C C C C C ?_;rw [cY];cases Cb:(fE i ws).isEmpty with
 | true=>
  rw [gw,Cb,Bool.true_or,if_pos C] at aH;refine bP ?_;exact bX.mk (i+1,out,rV) I ⟨aG,ve,s9,gC,aH⟩ c7 bM zr
 | false=>
 refine d' ?_;refine aa.B' zx LU (xs:=iW (ep (fF i ws))) (ys:=[0,0]) C C C C C C C C ?_;rw [ri];cases cB:(fF i ws).isEmpty with
 | true=>
  rw [gw,Cb,cB,Bool.or_true,if_pos C] at aH;refine bP ?_;exact bX.mk (i+1,out,rV) I ⟨aG,ve,s9,gC,aH⟩ c7 bM zr
 | false=>
 rw [gw,Cb,cB,if_neg bn] at aH;have dy:=Bi (i:=i) (vs:=ws) (by rw [Cb,cB];rfl);have XH:=Bh i ws;have E':=wD l.length (dw p n l) _ (fE i ws) (Nat.le_refl _);have q7:=wD l.length (dw p n l) _ (fF i ws) (Nat.le_refl _);have jZ:=fun M h=>a' (fF i ws).length ai (fF i ws) (Nat.le_refl _) (hw.filter fun v => !v.testBit i) M h
 have wN:=fun M h=>a' (fE i ws).length ai (fE i ws) (Nat.le_refl _) (hw.filter fun v=>v.testBit i) M h
 obtain ⟨VR,VS,fn,AH,-,-⟩:=rM (fQ l.length (dw p n l) (fF i ws));obtain ⟨ty,fp,XI,FW,-,-⟩:=rM (fQ l.length (dw p n l) (fE i ws));simp only [AH] at jZ;simp only [FW] at wN;have LV:(ca.test i (fQ l.length (dw p n l) (fF i ws)) (fQ l.length (dw p n l) (fE i ws))).leaves≤128:=by rw [ca.leaves];omega
 refine cH ?_;refine af.tW (σ:=List (List Int×ad)×Nat) (fun z=>[(0,.ptr cd 0),(3,.bq [.int .u64 (fm (ep ws) 0 64:Nat),.int .u64 (fm (ep ws) 64 64:Nat)] 0),(50,.int .i64 ((l.map ax.cj).length:Int)),(51,.int .i64 (i:Int)),(9,w5 out),(10,.int .i64 (i:Int)),(16,.ptr z.2 0)]) (fun z=>(.own z.2,.box 156 [.int .i64 (i:Int),.iface VR VS,.iface ty fp])::ia p n l an cm cd vs z.1) (fun z=>pL l.length (dw p n l) vs z.1∧jC vs rV z.1 ws.length) ?_ ?_
 ·refine af.re ak mixed C (bf.run C ?_)
  refine bf.many rfl (gO.c (ja.mk (i:=3) rfl rfl rfl rfl (aU.b0 rfl rfl (jZ rV ve) I bM) ?_ (fun x ah h=>by obtain ⟨_,_,_,_,_,_,h,_⟩:=h;cases h)) (gO.c (ja.mk (i:=8) rfl rfl rfl rfl (aU.dE ak I rfl rfl rfl rfl (X:=fun _ _=>False)) ?_ (fun _ _ h=>h.elim)) gO.n))
  ·rintro _ _ ⟨aL,rfl,I,Cc,Cd,Ce,⟨⟩,rfl⟩
   simp only [List.nil_append,List.cons_append] at I ⊢;refine bf.run C ?_;refine bf.many rfl (gO.c (ja.mk (i:=6) rfl rfl rfl rfl (aU.b0 rfl rfl (wN Cc Cd) I bM) ?_ (fun x ah h=>by obtain ⟨_,_,_,_,_,_,h,_⟩:=h;cases h)) (gO.c (ja.mk (i:=8) rfl rfl rfl rfl (aU.dE ak I rfl rfl rfl rfl (X:=fun _ _=>False)) ?_ (fun _ _ h=>h.elim)) gO.n))
   ·rintro _ _ ⟨aL,rfl,I,M2,qu,rW,⟨⟩,rfl⟩
    simp only [List.nil_append,List.cons_append] at I ⊢;refine bf.run C ?_;refine bf.dE 8 ak I C C C C C C C C C (fun vf I=>?_);refine bf.run C ?_;refine bf.cF 9 ak I C C C C C C C C C C C a1 b3 (fun I=>?_);refine bf.run C ?_;refine bf.done C ?_;exact jN.mk (M2,vf) I ⟨qu,(Ce.mono ai).trans rW ai⟩ (c3 C) (by simp only [ia,dI,dx,c8,iw];repeat (first|exact au.nil|(apply au.cons;· repeat (first|exact aP.here|apply aP.there))))
   ·rintro _ _ ⟨vf,rfl,rfl,I⟩
    refine bf.b0 6 rfl rfl rfl rfl rfl rfl rfl (wN Cc Cd) I bM ?_ (fun _ _ al _=>by obtain ⟨_,_,_,h,_⟩:=al;cases h);rintro _ _ ⟨M2,qu,rW,⟨⟩,rfl⟩ I;simp only [List.nil_append,List.cons_append] at I ⊢;refine bf.run C ?_;refine bf.cF 9 ak I C C C C C C C C C C C a1 b3 (fun I=>?_);refine bf.run C ?_;refine bf.done C ?_;exact jN.mk (M2,vf) I ⟨qu,(Ce.mono ai).trans rW ai⟩ (c3 C) (by simp only [ia,dI,dx,c8,iw];repeat (first|exact au.nil|(apply au.cons;· repeat (first|exact aP.here|apply aP.there))))
  ·rintro _ _ ⟨vf,rfl,rfl,I⟩
   refine bf.b0 3 rfl rfl rfl rfl rfl rfl rfl (jZ rV ve) I bM ?_ (fun _ _ al _=>by obtain ⟨_,_,_,h,_⟩:=al;cases h);rintro _ _ ⟨Cc,Cd,Ce,⟨⟩,rfl⟩ I;simp only [List.nil_append,List.cons_append] at I ⊢;refine bf.run C ?_;refine bf.b0 6 rfl rfl rfl rfl rfl rfl rfl (wN Cc Cd) I bM ?_ (fun _ _ al _=>by obtain ⟨_,_,_,h,_⟩:=al;cases h);rintro _ _ ⟨M2,qu,rW,⟨⟩,rfl⟩ I;simp only [List.nil_append,List.cons_append] at I ⊢;refine bf.run C ?_;refine bf.cF 9 ak I C C C C C C C C C C C a1 b3 (fun I=>?_);refine bf.run C ?_;refine bf.done C ?_;exact jN.mk (M2,vf) I ⟨qu,(Ce.mono ai).trans rW ai⟩ (c3 C) (by simp only [ia,dI,dx,c8,iw];repeat (first|exact au.nil|(apply au.cons;· repeat (first|exact aP.here|apply aP.there))))
 rintro ⟨M2,vf⟩ ⟨qu,rW⟩ I;unfold ia dI dx c8 at I ⊢;refine af.lG I 16 vf C .here (fun I=>?_);cases out with
 | none=>
  unfold w5;refine bP ?_;exact bX.mk (i+1,some (.test i (fQ l.length (dw p n l) (fF i ws)) (fQ l.length (dw p n l) (fE i ws))),M2) I ⟨aG,qu,s9.trans rW (Nat.le_refl _),(fun t h=>by cases h;exact LV),aH⟩ LG bM zr
 | some o=>
  obtain ⟨to,VT,XJ,F4,-,-⟩:=rM o;have lC:=Ss (.test i (fQ l.length (dw p n l) (fF i ws)) (fQ l.length (dw p n l) (fE i ws))) o ai (by have:=gC o C;omega);rw [jW,AH,FW,F4] at lC;have VU:uT (some o) (.test i (fQ l.length (dw p n l) (fF i ws)) (fQ l.length (dw p n l) (fE i ws)))=if (ca.test i (fQ l.length (dw p n l) (fF i ws)) (fQ l.length (dw p n l) (fE i ws))).before o then some (.test i (fQ l.length (dw p n l) (fF i ws)) (fQ l.length (dw p n l) (fE i ws))) else some o:=rfl
  rw [VU] at aH;have m3:w5 (some o) = .iface to VT:=F4;rw [m3];cases j9:(ca.test i (fQ l.length (dw p n l) (fF i ws)) (fQ l.length (dw p n l) (fE i ws))).before o with
  | true=>
   rw [j9] at lC;rw [j9,if_pos C] at aH;refine cy ?_;exact bX.mk (i+1,some (.test i (fQ l.length (dw p n l) (fF i ws)) (fQ l.length (dw p n l) (fE i ws))),M2) I ⟨aG,qu,s9.trans rW (Nat.le_refl _),(fun t h=>by cases h;exact LV),aH⟩ LG bM zr
  | false=>
   rw [j9] at lC;rw [j9,if_neg bn] at aH;refine cy ?_;exact bX.mk (i+1,some o,M2) I ⟨aG,qu,s9.trans rW (Nat.le_refl _),gC,aH⟩ (by repeat (first|exact trivial|refine ⟨⟨_,rfl,aR⟩,?_⟩|refine ⟨⟨_,rfl,a8.of_eq (by (first|rw [nt ai]|exact F4.symm))⟩,?_⟩)) bM zr
end Go.Proofs.YtnafpeohfbglmaaGreat
namespace Go.bY
open Go.Proofs.YtnafpeohfbglmaaGreat
def ca.all (P:List Int→Prop):ca→Prop
 | .leaf ms=>P ms
 | .test _ a b=>a.all P∧b.all P
theorem Cf {P:List Int→Prop} (A:Nat) (h:Nat→List Int) (bB:P []) (F5:∀ v,P (h v)):∀ (n:Nat) (vs:List Nat),vs.length≤n→(fQ A h vs).all P
  | n,vs,aC=>by
    rw [EL];split
    · rw [ca.all]
      cases vs with
      | nil=>exact bB
      | cons v r=>exact F5 v
    · refine JV (Pr:=fun t=>t.all P) (by rw [ca.all];exact bB) (fun _ h=>by cases h) (fun i _ he=>?_)
      have aI:=Bi he;cases n with
      | zero=>omega
      | succ n=>
        rw [ca.all];exact ⟨Cf A h bB F5 n _ ai,Cf A h bB F5 n _ ai⟩
theorem F6:∀ (t:ca) (L:List bC) (j:Nat) (x:bC),L.length≤j→(ca.laid L t)[j]? = some x→x.atom≥0→(j:Int)<x.no∧x.no<(ca.laid L t).length∧(j:Int)<x.yes∧x.yes<(ca.laid L t).length
  | .leaf ms,L,j,x,aS,ab,aV=>by
    rw [ca.laid,List.getElem?_append_right aS] at ab;cases h:j-L.length with
    | zero=>rw [h] at ab;cases ab;simp at aV
    | succ n=>rw [h] at ab;cases ab
  | .test i a b,L,j,x,aS,ab,aV=>by
    have U:=rN a (L++[⟨i,0,0,[]⟩]);have ae:=rN b (ca.laid (L++[⟨i,0,0,[]⟩]) a);have jQ:=a.px;have A4:=b.px;have eG:(L++[(⟨i,0,0,[]⟩:bC)]).length=L.length+1:=by simp
    rw [eG] at U;have VV:=F6 a (L++[⟨i,0,0,[]⟩]);have VW:=F6 b (ca.laid (L++[⟨i,0,0,[]⟩]) a);have qt:ca.laid L (.test i a b)=(ca.laid (ca.laid (L++[⟨i,0,0,[]⟩]) a) b).set L.length ⟨i,(L.length:Int)+1,((ca.laid (L++[⟨i,0,0,[]⟩]) a).length:Int),[]⟩:=rfl;rw [qt] at ab ⊢;rw [List.length_set];by_cases BS:j=L.length
    · subst BS
      rw [List.getElem?_set_self ai] at ab;cases ab;simp only;omega
    · rw [List.getElem?_set_ne ai] at ab
      by_cases VX:j<(ca.laid (L++[⟨i,0,0,[]⟩]) a).length
      · rw [yQ b _ j VX] at ab
        have:=VV j x ai ab aV;omega
      · have:=VW j x ai ab aV
        omega
theorem F7 {P:List Int→Prop} (bB:P []):∀ (t:ca) (L:List bC),t.all P→(∀ x∈L,P x.ms)→∀ x∈ca.laid L t,P x.ms
  | .leaf ms,L,aK,eG,x,ab=>by
    rw [ca.laid] at ab;rcases List.mem_append.1 ab with ab|ab
    · exact eG x ab
    · rw [List.mem_singleton.1 ab];exact aK
  | .test i a b,L,aK,eG,x,ab=>by
    have qt:ca.laid L (.test i a b)=(ca.laid (ca.laid (L++[⟨i,0,0,[]⟩]) a) b).set L.length ⟨i,(L.length:Int)+1,((ca.laid (L++[⟨i,0,0,[]⟩]) a).length:Int),[]⟩:=rfl;rw [qt] at ab;rcases List.mem_or_eq_of_mem_set ab with ab|rfl
    · refine F7 bB b _ aK.2 (F7 bB a _ aK.1 (fun y ay=>?_)) x ab
      rcases List.mem_append.1 ay with ay|ay
      · exact eG y ay
      · rw [List.mem_singleton.1 ay];exact bB
    · exact bB
theorem LW {t:ca} (aK:t.all (fun ms=>ms.length≤16)) (aI:t.leaves≤500):oz (ca.laid [] t):=by
 have U:=rN t [];have ae:=t.px;rw [List.length_nil] at U;exact ⟨by omega,by omega,F7 (P:=fun ms=>ms.length≤16) bn t [] aK (fun _ h=>by cases h),fun i x ab aV=>F6 t [] i x (Nat.zero_le _) ab aV⟩
theorem F8 {g:List bC} (h:fP g=true):oz g:=by
 obtain ⟨U,ae⟩:=vV h;refine ⟨U,by omega,fun x ab=>?_,fun i x ab aV=>?_⟩
 ·obtain ⟨i,aY⟩:=List.getElem?_of_mem ab
  have aC:=ry h aY;by_cases aV:x.atom = -1
  ·exact ((lM aV).1 aC).2.2.1
  ·have:=((iS aV).1 aC).2.2.2.2.2.2
   omega
 ·have:=(iS ai).1 (ry h ab)
  omega
end Go.bY
namespace Go.Proofs.YtnafpeohfbglmaaGreat
open Go.bj Go.bY
theorem LX (g:List bC) (ao:g.length<bt):a7 Tryz.prog 20 [eR g] (.cl [if fP g then .aA 4 ((small g).map de) .bd else .aA 0 [] .nil,.int .i64 (if fP g then 0 else 2)]):=by
 have an:=bQ;refine a7.bp ak call20 Tryz.func20 C C fun s I=>?_
 have ba:=DS g ao;unfold eR at *;cases gD:fP g with
 | false=>
  rw [gD] at ba;rw [if_neg bn,if_neg bn];refine cy ?_;exact bA I
 | true=>
  rw [gD] at ba;rw [if_pos C,if_pos C];have aw:=Kc g (F8 gD);refine cy ?_;refine aa.b0 rfl rfl rfl rfl rfl aw I .nil ?_ (fun _ _ ⟨h,_⟩ _=>by cases h);rintro _ _ ⟨⟨⟩,rfl⟩ I;simp only [List.nil_append] at I ⊢;refine dO ?_;exact bA I
def zA (p:b9) (n:Int):ad := .cl [if e3 p n=0 then .aA 4 ((small (ca.laid [] (sP p n))).map de) .bd else .aA 0 [] .nil,.int .i64 (e3 p n)]
theorem Cg (p:b9) (aN:gS p) (n:Int):a7 Tryz.prog 13 [ee p,.int .i64 n] (zA p n):=by
 have an:=bQ;refine a7.bp ak call13 Tryz.func13 C C fun s I=>?_
 have aV:=zf p aN n;unfold zA;unfold ee dC at *;refine dF ?_;refine aa.b0 rfl rfl rfl rfl rfl aV I .nil ?_ (fun _ _ h _=>by rcases h with ⟨_,_,_,_,h,_⟩|⟨_,⟨_,h⟩,_⟩<;>cases h);rintro _ _ (⟨he,cd,an,cm,⟨⟩,rfl⟩|⟨he,⟨v,⟨⟩⟩,rfl⟩) I
 ·rw [he,if_pos C,JT]
  obtain ⟨eD,gT,cU,eT,fV⟩:=rU he;have w2:2^(cI p n).length≤2^7:=Nat.pow_le_pow_right ai gT;have kg:=FP p aN eD n (cI p n) an cm cd gT cU eT fV;have fa:=zq (cu p) (cI p n);have eh:∀ v∈hO (cu p) (cI p n),v<2^(cI p n).length:=fun v h=>LF h
  have wY:=(wX eD).1;generalize eG:cI p n=l at *;generalize F9:hO (cu p) l=vs at *;have zy:=VP p n l an cm cd vs eh gT ai wY vs.length vs (Nat.le_refl _) (h'.all vs) [] (fun _ h=>by cases h);have pR:=wD l.length (dw p n l) _ vs (Nat.le_refl _);have F':=Cf (P:=fun ms=>ms.length≤16) l.length (dw p n l) bn (fun v=>by have:=zk n l v p.methods 0;unfold dw;omega) _ vs (Nat.le_refl _);generalize fQ l.length (dw p n l) vs=t at *;have LY:=St t [] none C dq;have tJ:=LW F' ai;have VY:=Kc _ tJ;simp only [List.cons_append,List.nil_append] at I ⊢;unfold dI dx c8 at *;refine bP ?_;refine aa.b0 rfl rfl rfl rfl rfl kg I bM ?_ (fun _ _ ⟨h,_⟩ _=>by cases h);rintro _ _ ⟨⟨⟩,rfl⟩ I;simp only [List.cons_append,List.nil_append] at I ⊢
  repeat (first|(refine O4 I ?_;clear I;intro I)|refine aa.dE ak I rfl rfl rfl rfl rfl rfl rfl (fun cv I=>?_))
  obtain ⟨VZ,rfl⟩:∃ x,x=cv:=⟨_,rfl⟩;have F1:ep (vs.take 0)=fun _=>false:=rfl
  refine af.cT [6,8,27,28] C I (σ:=Nat) (fun j=>[(29,.int .i64 (j:Int))]) (fun j=>(.own VZ,.box 106 [.int .u64 (fm (ep (vs.take j)) 0 64:Nat),.int .u64 (fm (ep (vs.take j)) 64 64:Nat)])::ia p n l an cm cd vs []) (fun j=>j≤vs.length) (fun j=>vs.length-j) 0 (Nat.zero_le _) (c3 C) (by
   simp only [F1,zo (fun _=>rfl),ia,dI,dx,c8]
   exact bM) ?_
  rintro j aS I;simp only [ia,dI,dx,c8,iw] at aS I ⊢;refine cL ?_;refine af.cond C (fun aG=>?_) (fun bk=>?_)
  ·have aG:j<vs.length:=by simpa using aG
   obtain ⟨v,av,nU⟩:=cD (f:=fun v:Nat=>ad.int .i64 (v:Int)) aG;have F2:v<128:=by have:=eh v (List.mem_of_getElem? av);omega
   have Ca:=Lz (ep (vs.take j)) v F2;have fc:(fun u=>ep (vs.take j) u||u==v)=ep (vs.take (j+1)):=by
    funext u;rw [List.take_add_one,av];unfold ep;rw [List.contains_append];congr 1;simp;rfl
   rw [fc] at Ca;unfold jx at Ca;refine gu I ?_;intro I;exact bX.mk (j+1) I aG c7 bM w4
  have bk:j=vs.length:=by simp at bk;omega
  subst bk;rw [List.take_length] at I ⊢;unfold ia dI dx c8 jx iw at zy;unfold hl gm at LY;refine cn I ?_;intro I;refine aa.b0 rfl rfl rfl rfl rfl zy I bM ?_ (fun _ _ h _=>by obtain ⟨_,_,_,h,_⟩:=h;cases h);rintro _ _ ⟨kQ,-,-,⟨⟩,rfl⟩ I;simp only [List.cons_append,List.nil_append] at I ⊢;skip;refine aa.b0 rfl rfl rfl rfl rfl LY I .nil ?_ (fun _ _ h _=>by obtain ⟨_,_,h,_⟩:=h;cases h);rintro _ _ ⟨bw,dy,⟨⟩,rfl⟩ I;have qe:=rN t [];have BI:=t.px;rcases bw with _|⟨g2,eI,eA⟩
  ·have bB:ca.laid [] t=[]:=dy
   rw [bB] at qe;simp at qe;omega
  obtain ⟨eE,e9,fH⟩:=dy;simp only [List.cons_append,List.nil_append] at I ⊢;refine aa.run ak C ?_;refine aa.nil ?_;refine Dn ?_;refine af.BE I 11 g2 C a1 fH (by rw [List.length_map]) (kh _) e9 (by have:=tJ.len;omega) (fun I=>?_);rw [← wJ];refine k3 ?_;refine aa.b0 rfl rfl rfl rfl rfl VY I .nil ?_ (fun _ _ ⟨h,_⟩ _=>by cases h);rintro _ _ ⟨⟨⟩,rfl⟩ I;simp only [List.cons_append,List.nil_append] at I ⊢;refine dO ?_;exact bA I
 ·rw [if_neg he]
  simp only [List.nil_append] at I ⊢;refine cC ?_;refine af.cond C (fun _=>?_) (fun h=>absurd gn he);refine j' ?_;exact bA I
end Go.Proofs.YtnafpeohfbglmaaGreat
namespace Go.Proofs.YtnafpeohfbglmaaGreat
open Go.bj Go.bY
def rX (c:Int):ax := .mk 2 0 [] c 0 []
def hn:b9:=⟨[⟨[],[],[]⟩,⟨[3],[],[]⟩,⟨[],[],[]⟩],0,[1],[⟨1,0,rX 3,0⟩,⟨1,0,rX 4,1⟩,⟨1,0,.mk 6 0 [] 0 0 [rX 1,.mk 3 0 [] 0 5 []],2⟩],[⟨2,0,[]⟩,⟨2,0,[]⟩,⟨2,0,[]⟩,⟨2,0,[]⟩],3⟩
def nO:List bC:=[⟨0,1,4,[]⟩,⟨3,2,3,[]⟩,⟨-1,0,0,[]⟩,⟨-1,0,0,[2]⟩,⟨1,5,6,[]⟩,⟨-1,0,0,[0]⟩,⟨-1,0,0,[0,1]⟩]
theorem Ga:e3 hn 0=0:=by kernel_rfl
theorem V0:hO (cu hn) (cI hn 0)=[0,1,3,4,12]:=by kernel_rfl
theorem V1:w3 hn 0 3=0:=by kernel_rfl
theorem V2:dw hn 0 (cI hn 0) 3=[0,1]:=by kernel_rfl
theorem V3:w3 hn 0 2=5:=by kernel_rfl
theorem V4:small (ca.laid [] (sP hn 0))=nO:=by kernel_rfl
theorem V5:s8 hn [] 0 [(1,4)] nO=0:=by kernel_rfl
theorem V6:leads nO (zu hn [] 0 [(1,4)])=(3,2):=by kernel_rfl
theorem V7:iD nO=2:=by kernel_rfl
theorem V8:fP nO=true:=by kernel_rfl
theorem V9:small [⟨0,1,2,[]⟩,⟨-1,0,0,[]⟩,⟨-1,0,0,[]⟩]=[⟨0,1,1,[]⟩,⟨-1,0,0,[]⟩]:=by kernel_rfl
theorem V':fP [⟨0,1,2,[]⟩,⟨-1,0,0,[]⟩,⟨-1,0,0,[]⟩]=true:=by kernel_rfl
end Go.Proofs.YtnafpeohfbglmaaGreat
namespace Go.Proofs.YtnafpeohfbglmaaGreat
open Go.bj Go.bY
theorem Gb (c:Int):a7 Tryz.prog 50 [.int .i64 c] ((rX c).cj):=by
 have an:=bQ;refine a7.bp ak call50 Tryz.func50 C C fun s I=>?_
 rw [ax.cO];unfold rX ax.cells
 repeat (first|(refine O5 I ?_;clear I;intro I)|refine aa.dE ak I rfl rfl rfl rfl rfl rfl rfl (fun cv I=>?_))
 refine Fin.dT I (o8 C C (aP.get a1 I) C) ?_
 repeat (first|exact aR|exact a8.empty|exact a8.bd|refine a8.agg ?_|refine a8.aA ?_|exact cA.nil|refine cA.cons ?_ ?_)
theorem Wa (u:Unit):a7 Tryz.prog 67 [] (eR nO):=by
 have an:=bQ;refine a7.bp ak call67 Tryz.func67 C C fun s I=>?_
 unfold eR;refine nv ?_;refine Fin.dT I C ?_;unfold nO;simp only [List.map_cons,List.map_nil,de,fj,bI,bg]
 repeat (first|exact aR|exact a8.empty|exact a8.bd|refine a8.agg ?_|refine a8.aA ?_|exact cA.nil|refine cA.cons ?_ ?_)
theorem LZ (u:Unit):a7 Tryz.prog 51 [] (ee hn):=by
 have an:=bQ;refine a7.bp ak call51 Tryz.func51 C C fun s I=>?_
 have U:=Gb 1;have al:=Gb 3;have bl:=Gb 4;rw [ax.cO] at U al bl;unfold ax.cells at U al bl
 repeat (first|(refine O6 I ?_;clear I;intro I)|refine aa.dE ak I rfl rfl rfl rfl rfl rfl rfl (fun cv I=>?_)|(refine O7 I ?_;clear I;intro I))
 refine Fin.dT I (o8 C C (aP.get a1 I) C) ?_;unfold hn ee dC;simp only [List.map_cons,List.map_nil,nC,uj,jf,ss,ka,ob,bI,bg,ax.path,ax.op,ax.arg,ax.cls,ax.n,ax.kids,ax.cO,ax.cells,rX]
 repeat (first|exact aR|exact a8.empty|exact a8.bd|refine a8.agg ?_|refine a8.aA ?_|exact cA.nil|refine cA.cons ?_ ?_)
theorem s':gS hn:=⟨by decide,by decide,by decide,by decide,by decide,by decide,by decide⟩
theorem L0 (u:Unit):a7 Tryz.prog 16 [] (.bool true):=by
 have an:=bQ;have U:=LZ ();have ae:=FU hn s' 0;have al:=FV hn s' 0 3;have bl:=FV hn s' 0 2;have bD:=Cg hn s' 0;have fG:=VK hn s' 0 [] [(1,4)] dd (fun _ h=>by cases h) dd nO dd;have hF:=Ip nO dd;have oj:=LX [⟨0,1,2,[]⟩,⟨-1,0,0,[]⟩,⟨-1,0,0,[]⟩] dd;have df:=Wa ();have s1:=x5 [0,1,3,4,12] [0,1,3,4,12] dd dd;have s2:=x5 [0,1] [0,1] dd dd;have Wb:=x5 [2] [2] dd dd;have g1:=Bw nO nO dd dd dd dd;have g2:=Bw [⟨0,1,1,[]⟩,⟨-1,0,0,[]⟩] [⟨0,1,1,[]⟩,⟨-1,0,0,[]⟩] dd dd dd dd;unfold B6 at ae;rw [Ga,if_pos C,V0] at ae;unfold B7 at al bl;rw [V1,if_pos C,show ((3:Int).toNat)=3 from rfl,V2] at al;rw [V3,if_neg dd] at bl;unfold zA at bD;rw [Ga,if_pos C,V4] at bD;unfold FZ at fG;rw [V5,if_pos C,if_pos C,V6] at fG;rw [V8,if_pos C,if_pos C,V7] at hF;rw [V',if_pos C,if_pos C,V9] at oj;rw [show (([0,1,3,4,12]:List Int)==[0,1,3,4,12])=true from rfl] at s1;rw [show (([0,1]:List Int)==[0,1])=true from rfl] at s2;rw [show (([2]:List Int)==[2])=true from rfl] at Wb;rw [show (nO==nO)=true from rfl] at g1;rw [show (([⟨0,1,1,[]⟩,⟨-1,0,0,[]⟩]:List bC)==[⟨0,1,1,[]⟩,⟨-1,0,0,[]⟩])=true from rfl] at g2;refine a7.bp ak call16 Tryz.func16 C C fun s I=>?_
 unfold ee dC at *;refine gP ?_;refine aa.iC C C C C C s1 (.cons (a8.of_eq C) (.one a8.bd)) ?_;refine d' ?_;refine aa.iC C C C C C s2 (.cons (a8.of_eq C) (.one a8.bd)) ?_;refine n8 ?_;refine aM.iC C C C C C fG (.cons aR (.cons a8.empty (.cons aR (.cons a8.bd (.one aR))))) ?_;refine cH ?_
 refine aa.iC C C C C C oj (.one (by
  unfold eR
  simp only [List.map_cons,List.map_nil,de,fj,bI,bg]
  repeat (first|exact aR|exact a8.empty|exact a8.bd|refine a8.agg ?_|refine a8.aA ?_|exact cA.nil|refine cA.cons ?_ ?_))) ?_
 refine cH ?_
 refine aa.iC C C C C C g2 (.cons (a8.of_eq C) (.one (by
  unfold eR
  simp only [List.map_cons,List.map_nil,de,fj,bI,bg]
  repeat (first|exact aR|exact a8.empty|exact a8.bd|refine a8.agg ?_|refine a8.aA ?_|exact cA.nil|refine cA.cons ?_ ?_)))) ?_
 refine dO ?_;exact bA I
end Go.Proofs.YtnafpeohfbglmaaGreat
namespace Go.Proofs.YtnafpeohfbglmaaGreat
open Go.bj Go.bY
theorem Wc {g:List bC} (h:fP g=true):∀ x∈g,¬ x.atom≥0→x.no=0∧x.yes=0:=fun x ab aV=>by
 obtain ⟨i,aY⟩:=List.getElem?_of_mem ab;have aC:=ry h aY;by_cases hm:x.atom = -1
 ·have:=(lM hm).1 aC
  exact ⟨this.1,this.2.1⟩
 ·have:=(iS hm).1 aC
  omega
theorem L1 {g:List bC} (ao:oz g):(small g).length≤1000∧∀ x∈small g,x.ms.length≤16:=by
 have nI:=ao.pos;have la:=ao.len;have qy:=Ff ao;obtain ⟨wK,qx⟩:=mw g 0;obtain ⟨a0,BF,-,Fg⟩:=u2 ao (b:=0) ai;have rP:small g=(meet (b4 0 g).2 (g.length+1) [] a0).reverse.map (hY (b4 0 g).2 (meet (b4 0 g).2 (g.length+1) [] a0)):=by
  unfold small;simp only [List.getD_eq_getElem?_getD,BF,Option.getD_some];rfl
 have u0:lT g.length []:=⟨List.nodup_nil,fun _ h=>by cases h⟩;have oB:=(qv qy (g.length+1) a0 ai ai [] (by rw [qx];exact u0)).1;have aI:=oB.len;rw [rP];refine ⟨by rw [List.length_map,List.length_reverse];omega,fun x ab=>?_⟩;obtain ⟨z,-,rfl⟩:=List.mem_map.1 ab;have key:((b4 0 g).2.getD z.toNat default).ms.length≤16:=by
  rw [List.getD_eq_getElem?_getD];cases h:(b4 0 g).2[z.toNat]? with
  | none=>exact Nat.zero_le _
  | some y=>
   obtain ⟨w,jT,sT⟩:=yU g 0 _ y h;rw [Option.getD_some,sT];exact ao.ms w jT
 unfold hY;simp only;split
 ·exact key
 ·exact key
theorem Wd (g:List bC) (ao:g.length<bt) (hm:∀ x∈g,x.ms.length<bt):a7 Tryz.prog 21 [eR g] (.cl [if fP g then .aA 4 ((small g).map de) .bd else .aA 0 [] .nil,.int .i64 (if fP g then 0 else 2)]):=by
 have an:=bQ;refine a7.bp ak call21 Tryz.func21 C C fun s I=>?_
 have ba:=Kp g ao hm;unfold eR at *;cases gD:fP g with
 | false=>
  rw [gD] at ba;rw [if_neg bn,if_neg bn];refine cy ?_;exact bA I
 | true=>
  rw [gD] at ba;rw [if_pos C,if_pos C];have aw:=bu.AR (S6 g (F8 gD) (Wc gD));unfold eR at aw;refine cy ?_;exact bA I
def Ch (g:List bC):Bool:=decide (g.length>400)||g.any (fun x=>decide (x.ms.length>40))
theorem We (g:List bC) (ao:g.length<bt):a7 Tryz.prog 17 [eR g] (.bool (Ch g)):=by
 have an:=bQ;refine a7.bp ak call17 Tryz.func17 C C fun s I=>?_
 have eG:Ch g=(decide (g.length>400)||g.any (fun x=>decide (x.ms.length>40))):=rfl;unfold eR;refine cL ?_;refine af.cond C (fun h=>?_) (fun h=>?_)
 ·rw [show decide (g.length>400)=true by simp at h ⊢;omega,Bool.true_or] at eG
  rw [eG];refine j' ?_;exact bA I
 rw [show decide (g.length>400)=false by simp at h ⊢;omega,Bool.false_or] at eG;rw [eG];refine lH ?_;refine af.cT [0] C I (σ:=Nat) (fun j=>[(3,.int .i64 (j:Int))]) (fun _=>[]) (fun j=>j≤g.length∧g.any (fun x=>decide (x.ms.length>40))=(g.drop j).any (fun x=>decide (x.ms.length>40))) (fun j=>g.length-j) 0 ⟨Nat.zero_le _,rfl⟩ (c3 C) .nil ?_;rintro j ⟨aS,aH⟩ I
 try simp only at aS aH I ⊢
 refine cL ?_;refine af.cond C (fun aG=>?_) (fun bk=>?_);rotate_left
 ·have bk:j=g.length:=by simp at bk;omega
  rw [fC ai,List.any_nil] at aH;rw [aH];refine fJ ?_;exact bA I
 have aG:j<g.length:=by simpa using aG
 obtain ⟨x,ab,ch⟩:=cD (f:=de) aG;rw [drop_cons ab,List.any_cons] at aH;unfold de fj bI at ch;refine fA ?_;refine af.cond C (fun aE=>?_) (fun aE=>?_)
 ·rw [show decide (x.ms.length>40)=true by simp at aE ⊢;omega,Bool.true_or] at aH
  rw [aH];refine mh ?_;exact bA I
 ·rw [show decide (x.ms.length>40)=false by simp at aE ⊢;omega,Bool.false_or] at aH
  refine gi ?_;exact bX.mk (j+1) I ⟨aG,aH⟩ c7 .nil ua
theorem XK (g:List bC) (ao:g.length<bt):a7 Tryz.prog 4 [eR g] (.bool true):=by
 have an:=bQ;refine a7.bp ak call4 Tryz.func4 C C fun s I=>?_
 have Bm:=We g ao;have XL:=L0 ();cases eG:Ch g with
 | true=>
  rw [eG] at Bm;unfold eR at *;refine cy ?_;exact bA I
 | false=>
 rw [eG] at Bm;unfold Ch at eG;rw [Bool.or_eq_false_iff,List.any_eq_false] at eG;have h5:∀ x∈g,x.ms.length<bt:=fun x ab=>by
  have:=eG.2 x ab;simp at this;omega
 have U:=Ip g ao;have ae:=SV g ao h5;have al:=LX g ao;have bl:=Wd g ao h5;cases gD:fP g with
 | true=>
  rw [gD,if_pos C,if_pos C] at U ae al bl;obtain ⟨s1,s2⟩:=L1 (F8 gD);have bD:=Bw (small g) (small g) ai ai (fun x ab=>by have:=s2 x ab;omega) (fun x ab=>by have:=s2 x ab;omega);rw [show (small g==small g)=true from beq_iff_eq.2 C] at bD;generalize iD g=h at *;unfold eR at *;refine cy ?_;refine aa.eH 37 C bn ?_;refine cH ?_;exact bA I
 | false=>
  rw [gD] at U ae al bl;simp only [Bool.false_eq_true,if_false] at U ae al bl;have bD:=Bw [] [] dd dd (fun _ h=>by cases h) (fun _ h=>by cases h);rw [show (([]:List bC)==[])=true from rfl] at bD;unfold eR at *;refine cy ?_;refine aa.iC C C C C C bD (.cons a8.empty (.one a8.empty)) ?_;refine cH ?_;exact bA I
end Go.Proofs.YtnafpeohfbglmaaGreat
namespace Go.Proofs.YtnafpeohfbglmaaGreat
open Go.bj Go.bY
theorem Wf (a b:ax) (aV:a.kids=[]) (dz:b.kids=[]) (JY:a.path.length<bt) (eD:b.path.length<bt):a7 Tryz.prog 84 [a.cj,b.cj] (.bool (fW a b)):=by
 have an:=bQ;refine a7.bp ak call84 Tryz.func84 C C fun s I=>?_
 obtain ⟨o,x,p,c,n,ks⟩:=a;obtain ⟨o',mB,bb,mN,n',AP⟩:=b;simp only [ax.kids] at aV dz;subst aV;subst dz;have U:=x5 p bb JY eD;have he:fW (.mk o x p c n []) (.mk o' mB bb mN n' [])=(decide (o=o')&&(decide (x=mB)&&(decide (c=mN)&&(decide (n=n')&&p==bb)))):=rfl;simp only [ax.cO,ax.cells,ax.op,ax.arg,ax.path,ax.cls,ax.n,ax.kids,List.map_nil];unfold bI bg at U;cases aw:decide (o=o')&&(decide (x=mB)&&(decide (c=mN)&&(decide (n=n')&&p==bb))) with
 | false=>
  rw [he,aw];clear he
  repeat' (first|(with_reducible first|apply af.seq|apply cf|apply hb|apply af.ret|apply af.skip|apply af.block)|refine dK C ?_|refine af.cK ?_|refine aa.nil ?_|refine af.gV C ?_|refine af.hR C ?_|refine cG C ?_|refine aa.skip C C C ?_|refine aa.eB C C C C C cq ?_|(fail_if_success refine aa.same true C ?_);(fail_if_success refine aa.same false C ?_);refine aa.iB C C (fun h=>?_) (fun h=>?_))
  all_goals (try (refine Fin.dT I C ?_;exact aR))
  all_goals (exfalso;clear I;grind)
 | true=>
  rw [he,aw];simp only [Bool.and_eq_true,decide_eq_true_eq,beq_iff_eq] at aw;obtain ⟨rfl,rfl,rfl,rfl,rfl⟩:=aw;rw [show (p==p)=true from beq_iff_eq.2 C] at U;refine dF ?_;refine aa.dR 11 C bn ?_;refine d' ?_;refine aa.dR 18 C bn ?_;refine d' ?_;refine aa.dR 25 C bn ?_;refine d' ?_;refine aa.dR 32 C bn ?_;refine cy ?_;refine af.cT [51] C I (σ:=Nat) (fun j=>[(52,.int .i64 (j:Int))]) (fun _=>[]) (fun j=>j=0) (fun j=>0) 0 C (c3 C) .nil ?_;rintro j rfl I
  try simp only at I ⊢
  refine bP ?_;exact bA I
theorem Wg (x y:bC) (ab:x.ms.length<bt) (ay:y.ms.length<bt):a7 Tryz.prog 95 [de x,de y] (.bool (x==y)):=by
 have an:=bQ;refine a7.bp ak call95 Tryz.func95 C C fun s I=>?_
 have U:=sr x.ms y.ms ab ay;have he:(x==y)=(decide (x.atom=y.atom)&&(decide (x.no=y.no)&&(decide (x.yes=y.yes)&&x.ms==y.ms))):=by
  obtain ⟨a,b,c,d⟩:=x;obtain ⟨cR,aT,mN,cM⟩:=y;rw [Bool.eq_iff_iff];simp
 unfold de fj bI at *
 repeat' (first|(with_reducible first|apply af.seq|apply cf|apply af.ret)|refine dK C ?_|refine af.cK ?_|refine aa.nil ?_|refine cG C ?_|refine aa.skip C C C ?_|refine aa.eB C C C C C cq ?_|(fail_if_success refine aa.same true C ?_);(fail_if_success refine aa.same false C ?_);refine aa.iB C C (fun h=>?_) (fun h=>?_))
 all_goals (refine Fin.dT I C (a8.of_eq (congrArg ad.bool ?_));rw [he];clear I U he;grind)
def ta (p:b9) (n:Int):List bC:=small (ca.laid [] (sP p n))
def Gc (p q:b9) (n k:Int):Bool:=
 decide (e3 p n=e3 q k)&&(decide (e3 p n≠0)||(kd fW (cI p n) (cI q k)&&(hO (cu p) (cI p n)==hO (cu q) (cI q k)&&kd (fun x y=>x==y) (ta p n) (ta q k))))
theorem Wh {p:b9} (n:Int) (he:e3 p n=0):oz (ca.laid [] (sP p n)):=by
 rw [JT];obtain ⟨eD,gT,cU,eT,fV⟩:=rU he;have w2:2^(cI p n).length≤2^7:=Nat.pow_le_pow_right ai gT;have fa:=zq (cu p) (cI p n);have pR:=wD (cI p n).length (dw p n (cI p n)) _ (hO (cu p) (cI p n)) (Nat.le_refl _);have F':=Cf (P:=fun ms=>ms.length≤16) (cI p n).length (dw p n (cI p n)) bn (fun v=>by have:=zk n (cI p n) v p.methods 0;have:=(wX eD).1;unfold dw;omega) _ (hO (cu p) (cI p n)) (Nat.le_refl _);exact LW F' ai
theorem L2 {p:b9} (n:Int) (he:e3 p n=0):(ta p n).length≤1000∧∀ x∈ta p n,x.ms.length≤16:=L1 (Wh n he)
theorem L3 (l:List Nat):(l.map fun v:Nat=>ad.int .i64 (v:Int))=(l.map fun v:Nat=>(v:Int)).map bg:=by rw [List.map_map];rfl
theorem L4:∀ l m:List Nat,((l.map fun v:Nat=>(v:Int))==(m.map fun v:Nat=>(v:Int)))=(l==m)
  | [],[]=>rfl
  | [],_::_=>rfl
  | _::_,[]=>rfl
  | a::l,b::m=>by
    rw [List.map_cons,List.map_cons,List.cons_beq_cons,List.cons_beq_cons,L4 l m];congr 1;rw [Bool.eq_iff_iff];simp;omega
theorem Wi (p q:b9) (aN:gS p) (bs:gS q) (n k:Int):a7 Tryz.prog 46 [ee p,ee q,.int .i64 n,.int .i64 k] (.bool (Gc p q n k)):=by
  have an:=bQ;refine a7.bp ak call46 Tryz.func46 C C fun s I=>?_
  have eJ:=FT p aN n;have a2:=FT q bs k;have a3:=FU p aN n;have a4:=FU q bs k;have a5:=Cg p aN n;have w8:=Cg q bs k;unfold B5 at eJ a2;unfold B6 at a3 a4;unfold zA at a5 w8;unfold Gc;have L5:a7 Tryz.prog 37 [.aA 1 [] .bd,.aA 1 [] .bd] (.bool true):=sr [] [] dd dd;have L6:a7 Tryz.prog 94 [.aA 6 [] .bd,.aA 6 [] .bd,.func 84 [] []] (.bool true):=
    D8 (.func 84 [] []) fW [] [] dd dd (fun _ h=>by cases h)
  have L7:a7 Tryz.prog 56 [.aA 4 [] .bd,.aA 4 [] .bd,.func 95 [] []] (.bool true):=
    II (.func 95 [] []) (fun x y=>x==y) [] [] dd dd (fun _ h=>by cases h)
  unfold ee dC at *;by_cases bB:e3 p n=0
  · by_cases U:e3 q k=0
    · obtain ⟨gT,cU⟩:(cI p n).length≤7∧iV (cu p) (cI p n):=⟨(rU bB).2.1,(rU bB).2.2.1⟩
      obtain ⟨Wj,pn⟩:(cI q k).length≤7∧iV (cu q) (cI q k):=⟨(rU U).2.1,(rU U).2.2.1⟩;have jT:2^(cI p n).length≤2^7:=Nat.pow_le_pow_right ai gT;have sT:2^(cI q k).length≤2^7:=Nat.pow_le_pow_right ai Wj;have q3:=zq (cu p) (cI p n);have nY:=zq (cu q) (cI q k);obtain ⟨g1,g2⟩:=L2 n bB;obtain ⟨g3,g4⟩:=L2 k U
      have ba:=D8 (.func 84 [] []) fW (cI p n) (cI q k) ai ai (fun x ab y ay=>by
        have XM:=s4 (cU x ab).1 (cU x ab).2
        have Wk:=zm (cU x ab).1 (cU x ab).2
        have BA:=s4 (pn y ay).1 (pn y ay).2
        have Fk:=zm (pn y ay).1 (pn y ay).2
        exact dM.eP (first:=[]) (cap:=[]) (Wf x y Wk Fk ai ai))
      have aw:=sr ((hO (cu p) (cI p n)).map fun v:Nat=>(v:Int)) ((hO (cu q) (cI q k)).map fun v:Nat=>(v:Int)) nL nL;have ao:=II (.func 95 [] []) (fun x y=>x==y) (ta p n) (ta q k) ai ai (fun x ab y ay=>dM.eP (first:=[]) (cap:=[]) (Wg x y (by have:=g2 x ab;omega) (by have:=g4 y ay;omega)));rw [L4] at aw;unfold bI at aw;rw [← L3,← L3] at aw;rw [bB,if_pos C] at eJ a3 a5;rw [U,if_pos C] at a2 a4 w8;unfold c8 at eJ a2;unfold iw at a3 a4;change a7 _ _ _ (.cl [.aA 4 ((ta p n).map de) .bd,.int .i64 0]) at a5;change a7 _ _ _ (.cl [.aA 4 ((ta q k).map de) .bd,.int .i64 0]) at w8;rw [show decide (e3 p n=e3 q k)=true from by rw [bB,U];rfl,show decide (e3 p n≠0)=false from by rw [bB];rfl,Bool.true_and,Bool.false_or];clear L5 L6 L7;cases b8:kd fW (cI p n) (cI q k) with
      | false=>
        rw [b8] at ba;refine cy ?_;exact bA I
      | true=>
      rw [b8] at ba;cases bZ:hO (cu p) (cI p n)==hO (cu q) (cI q k) with
      | false=>
        rw [bZ] at aw;refine cy ?_;exact bA I
      | true=>
      rw [bZ] at aw;refine cy ?_;exact bA I
    · rw [bB,if_pos C] at eJ a3 a5
      rw [if_neg U] at a2 a4 w8;rw [show decide (e3 p n=e3 q k)=false from decide_eq_false (by rw [bB];exact fun h=>U h.symm),Bool.false_and];unfold c8 at eJ;unfold iw at a3;generalize e3 q k=e at *;generalize small (ca.laid [] (sP p n))=G at *;generalize cI p n=A at *;generalize hO (cu p) A=V at *;have he:(0==e)=false:=by rw [beq_eq_false_iff_ne];exact fun h=>U h.symm
      refine cy ?_;refine aa.dR 60 C he ?_;refine cC ?_;exact bA I
  · by_cases U:e3 q k=0
    · rw [U,if_pos C] at a2 a4 w8
      rw [if_neg bB] at eJ a3 a5;rw [show decide (e3 p n=e3 q k)=false from decide_eq_false (by rw [U];exact bB),Bool.false_and];unfold c8 at a2;unfold iw at a4;generalize e3 p n=e at *;generalize small (ca.laid [] (sP q k))=G at *;generalize cI q k=A at *;generalize hO (cu q) A=V at *;have he:(e==0)=false:=by rw [beq_eq_false_iff_ne];exact bB
      refine cy ?_;refine aa.dR 60 C he ?_;refine cC ?_;exact bA I
    · rw [if_neg bB] at eJ a3 a5
      rw [if_neg U] at a2 a4 w8;rw [show decide (e3 p n≠0)=true from decide_eq_true bB,Bool.true_or,Bool.and_true];generalize e3 p n=e at *;generalize e3 q k=f at *;by_cases Gd:e=f
      · subst Gd
        have he:(e==e)=true:=beq_iff_eq.2 C;rw [decide_eq_true C];refine cy ?_;refine aa.eH 60 C he ?_;refine d' ?_;refine aa.eH 65 C he ?_;refine d' ?_;refine aa.eH 70 C he ?_;refine d' ?_;refine aa.iC C C C C C L6 (.cons a8.empty (.cons a8.empty (.one aR))) ?_;refine d' ?_;refine aa.iC C C C C C L5 (.cons a8.empty (.one a8.empty)) ?_;refine d' ?_;refine aa.iC C C C C C L7 (.cons a8.empty (.cons a8.empty (.one aR))) ?_;refine dO ?_;exact bA I
      · have he:(e==f)=false:=by rw [beq_eq_false_iff_ne];exact Gd
        rw [decide_eq_false Gd];refine cy ?_;refine aa.dR 60 C he ?_;refine cC ?_;exact bA I
end Go.Proofs.YtnafpeohfbglmaaGreat
namespace Go.Proofs.YtnafpeohfbglmaaGreat
open Go.bj Go.bY
def Ci:b9:=⟨hn.dH,0,[1],[],[⟨2,0,[]⟩],0⟩
def Ge:b9:=⟨hn.dH++[⟨[3,5],[],[]⟩],0,[1],hn.methods,hn.nodes,3⟩
theorem Wl:e3 Ci 0=0:=by kernel_rfl
theorem Wm:small (ca.laid [] (sP Ci 0))=[⟨-1,0,0,[]⟩]:=by kernel_rfl
theorem Wn:w3 hn 0 4=0:=by kernel_rfl
theorem Wo:dw hn 0 (cI hn 0) 4=[]:=by kernel_rfl
def Gf:List ax:=[rX 3,rX 4,rX 1,.mk 3 0 [] 0 5 []]
theorem Wp:cI hn 0=Gf:=by kernel_rfl
theorem Wq:Gc hn Ge 0 0=true:=by kernel_rfl
end Go.Proofs.YtnafpeohfbglmaaGreat
namespace Go.Proofs.YtnafpeohfbglmaaGreat
open Go.bj Go.bY
theorem Wr (l:List hK):∀ y∈l.map jf,jv 3 y=true:=Qd l
theorem Ws (l:List hK) (own:bU) (aI:l.length<bt):bu Tryz.prog 44 [.aA 3 (l.map jf) own] [] (fun o K=>∃ cZ,o = .ret (.aA 3 (l.map jf) cZ)∧K=[(cZ,.row 76 3 l.length)]):=by
 have an:=bQ;refine bu.bp ak call44 Tryz.func44 C C fun s I=>?_
 refine dF ?_;refine aa.op C C C (aU.AS ak C C C C (X:=fun _ _=>False)) ?_ (fun _ _ h=>False.elim h);rintro r ah ⟨rfl,⟨rfl,aC⟩|rfl⟩
 ·have pS:l.length=0:=by simpa using congrArg List.length aC
  refine aa.kz I 76 3 0 fun I=>?_
  refine cC ?_;rw [aC,pS];exact Fin.bH I C (a8.nil jO) (au.all _) ⟨.nil,rfl,rfl⟩
 ·refine bP ?_
  refine aa.AN I 76 3 0 fun I=>?_
  refine aa.o6 ak I C C C C C C C eQ C C C C (.inr C) C (Wr l) C .here C (n':=l.length) bn (by simp only [List.length_nil,Nat.zero_add,List.length_map];show _*72≤_;omega) AG (fun mu I=>?_);refine dO ?_;exact Fin.bH I C aR (au.all _) ⟨mu,rfl,rfl⟩
end Go.Proofs.YtnafpeohfbglmaaGreat
namespace Go.Proofs.YtnafpeohfbglmaaGreat
open Go.bj Go.bY
theorem Wt:gS Ci:=⟨by decide,by decide,by decide,by decide,by decide,by decide,by decide⟩
theorem Wu:gS Ge:=⟨by decide,by decide,by decide,by decide,by decide,by decide,by decide⟩
theorem XN (u:Unit):a7 Tryz.prog 9 [] (.bool true):=by
 have an:=bQ;have U:=LZ ();have ae:=Cg Ci Wt 0;have al:=FV hn s' 0 4;have bl:=FT hn s' 0;have bD:=Ws hn.dH .bd dd;have fG:=Wi hn Ge s' Wu 0 0;have hw:=L0 ();unfold zA at ae;rw [Wl,if_pos C,Wm] at ae;unfold B7 at al;rw [Wn,if_pos C,show ((4:Int).toNat)=4 from rfl,Wo] at al;unfold B5 at bl;rw [Ga,if_pos C,Wp] at bl;rw [Wq] at fG;have b8:(([⟨-1,0,0,[]⟩]:List bC).map de)[0]? = some (.agg (fj ⟨-1,0,0,[]⟩)):=rfl;have bZ:(Gf.map ax.cj)[3]? = some (.agg (ax.mk 3 0 [] 0 5 []).cells):=by unfold Gf;simp [ax.cO]
 have eF:∀ x:ax,x.cells=[.int .i64 x.op,.int .i64 x.arg,.aA 1 (x.path.map fun i => .int .i64 i) .bd,.int .i64 x.cls,.int .i64 x.n,.aA 6 (x.kids.map ax.cj) .bd]:=fun _=>rfl
 rw [eF] at bZ;clear eF;unfold fj at b8;unfold c8 at bl;refine a7.bp ak call9 Tryz.func9 C C fun s I=>?_
 unfold ee dC at *
 repeat (first|(refine Dm I ?_;clear I;intro I)|refine aa.dE ak I rfl rfl rfl rfl rfl rfl rfl (fun cv I=>?_)|(refine nw ?_))
 refine aa.iC C C C C C ae (.cons (a8.agg (.cons aR (.cons aR (.cons aR (.cons a8.empty (.cons (by
  repeat (first|exact aR|exact a8.empty|exact a8.bd|refine a8.agg ?_|refine a8.aA ?_|exact cA.nil|refine cA.cons ?_ ?_)) (.cons aR .nil))))))) (.one aR)) ?_
 repeat (first|(refine Hx I ?_;clear I;intro I)|refine aa.dE ak I rfl rfl rfl rfl rfl rfl rfl (fun cv I=>?_)|(refine nw ?_))
 refine aa.b0 rfl rfl rfl rfl rfl bD I .nil ?_ (fun _ _ ⟨_,h,_⟩ _=>by cases h);rintro _ _ ⟨mu,⟨⟩,rfl⟩ I;simp only [List.cons_append,List.nil_append] at I ⊢;refine d' ?_;refine aa.iN ak I C C C C C C C eQ C C C C C C C C a1 bn dd dd (fun g5 I=>?_);refine cn I ?_;intro I
 refine aa.iC C C C C C fG (.cons aR (.cons (a8.agg (.cons (a8.aA (by
  repeat (first|exact aR|exact a8.empty|exact a8.bd|refine a8.agg ?_|refine a8.aA ?_|exact cA.nil|refine cA.cons ?_ ?_))) (.cons aR (.cons aR (.cons aR (.cons aR (.cons aR .nil))))))) (.cons aR (.one aR)))) ?_
 refine cH ?_;exact bA I
end Go.Proofs.YtnafpeohfbglmaaGreat
namespace Go.Proofs.YtnafpeohfbglmaaGreat
open Go.bj Go.bY
def nP (w:World):bN:=fun b _=>b<w.heap.size
theorem Wv (w:World):c0 w (nP w) (fun _=>none):=⟨(fun _ _ h=>by cases h),fun _ _ h=>h⟩
theorem add_add (a:Addr) (x y:Nat):(a.add x).add y=a.add (x+y):=by
 unfold Addr.add;by_cases ab:x=0
 ·subst ab;simp
 ·by_cases ay:y=0
  ·subst ay;simp [ab]
  ·simp [ab,ay,Nat.add_assoc]
theorem Ww {w:World} {a:Addr} {v:Value} (h:w.cell? a=some v):a.spot=none∧a.block<w.heap.size:=by
 unfold World.cell? at h;split at h
 ·rename_i c _ _ an
  refine ⟨?_,(Array.getElem?_eq_some_iff.1 an).1⟩;cases aw:a.spot with
  | none=>rfl
  | some s=>rw [aw] at h;simp at h
 ·cases h
theorem L8 {w:World} {a:Addr} {n:Nat} {cs:List Value} (h:w.cells? 0 a n=some cs):cs.length=n∧∀ i v,cs[i]? = some v→w.cell? (a.add i)=some v:=by
 unfold World.cells? at h;rw [if_pos (Nat.zero_le _)] at h;refine ⟨by simpa using mapM_some_length h,fun i v av=>?_⟩;have aY:i<n:=by
  have:=mapM_some_length h;rw [List.length_range] at this;rw [← this];exact (List.getElem?_eq_some_iff.1 av).1
 rw [mapM_some_get h i i (by rw [List.getElem?_range aY])];exact av
section
variable {H:Type} {enc:TypeId×Value→H} {w:World}
theorem Cj {sz:Nat}:∀ {vs:List Value},(∀ v∈vs,v.cells.size=sz)→(flat vs).length=vs.length*sz
  | [],_=>by simp [flat]
  | v::vs,h=>by
    have:=Cj (vs:=vs) (fun u hu=>h u (List.mem_cons_of_mem _ hu));have av:=h v List.mem_cons_self;simp only [flat,List.flatMap_cons,List.length_append,List.length_cons] at this ⊢;rw [this,Array.length_toList,av,Nat.add_mul,Nat.one_mul,Nat.add_comm]
theorem bO.zB {p:bN}:∀ {vs us:List Value} {xs ys:List ad},bO w p vs xs→bO w p us ys→bO w p (vs++us) (xs++ys)
 | _,_,_,_,.nil,h=>h
 | _,_,_,_,.cons v x vs xs h t,k => .cons _ _ _ _ h (bO.zB t k)
theorem Wx (l r:List (DataW H)):Rows.uptoBulkAll (l++r)=Rows.uptoBulkAll l+Rows.uptoBulkAll r:=by
 induction l with
 | nil=>simp [Rows.uptoBulkAll]
 | cons x l a'=>simp only [List.cons_append,Rows.uptoBulkAll,a'];omega
theorem L9 {α:Type} {t e:TypeId} {sz fuel:Nat} {cs:List Value} {x:DataW H×List MemPlace} (f:α→ad) (m:α→Nat) (aK : Tryz.prog.underlying t=some (.slice e)) (aE : Tryz.prog.cellsOf e=sz) (b7:0<sz)
  (dB:∀ n cs y,n<fuel→DataW.trod enc Tryz.prog w 0 (fun _=>true) true n e cs=some y→cs.length=sz→∃ (a:α) (v:Value),v.cells.toList=cs∧Rel w (nP w) v (f a)∧m a≤Rows.uptoBulk y.1)
  (h:DataW.trod enc Tryz.prog w 0 (fun _=>true) true fuel t cs=some x) :
  ∃ (c:Value) (l:List α),cs=[c]∧Rel w (nP w) c (.aA sz (l.map f) .bd)∧(l.map m).sum+1≤Rows.uptoBulk x.1:=by
 rcases DataW.trod_slice aK h with ⟨rfl,rfl⟩|⟨a,len,cap,elems,rest,n,rfl,rfl,rfl,an,aI,hm,hlen,L',gw,Fw⟩
 ·exact ⟨_,[],rfl,.gU _ _ bn,by simp [Rows.uptoBulk]⟩
 ·rw [aE] at L' gw
  have key:∀ k,k≤len→∃ (l:List α) (vs:List Value),l.length=k∧bO w (nP w) vs (l.map f)∧(∀ v∈vs,v.cells.size=sz)∧(∀ i u,(flat vs)[i]? = some u→w.cell? (a.add i)=some u) ∧
    (l.map m).sum≤Rows.uptoBulkAll ((elems.take k).map (·.1)):=by
   intro k
   induction k with
   | zero=>intro _;exact ⟨[],[],rfl,.nil,by simp,by simp [flat],by simp⟩
   | succ k a'=>
    intro aD;obtain ⟨l,vs,U,ae,al,bl,bD⟩:=a' ai;have Ck:elems[k]? = some (elems[k]' ai):=List.getElem?_eq_getElem ai;have an:=L' k ai;rw [Ck,Option.bind_eq_some_iff] at an;obtain ⟨cs',gJ,ay⟩:=an;obtain ⟨g1,g2⟩:=L8 gJ;obtain ⟨cR,v,b8,bZ,eF⟩:=dB n cs' _ (Nat.lt_succ_self n) ay g1;have eh:vs.length=k:=by rw [ae.length,List.length_map,U]
    refine ⟨l++[cR],vs++[v],by simp [U],?_,?_,?_,?_⟩
    ·rw [List.map_append];exact bO.zB ae (.cons _ _ _ _ bZ .nil)
    ·intro u hu
     rcases List.mem_append.1 hu with hu|hu
     ·exact al u hu
     ·simp only [List.mem_singleton] at hu
      subst hu;rw [← Array.length_toList,b8,g1]
    ·intro i u hu
     have ba:flat (vs++[v])=flat vs++cs':=by simp [flat,b8]
     rw [ba] at hu;by_cases aY:i<(flat vs).length
     ·rw [List.getElem?_append_left aY] at hu;exact bl i u hu
     ·rw [List.getElem?_append_right ai,Cj al,eh] at hu
      have:=g2 _ _ hu;rw [add_add] at this;rw [Cj al,eh] at aY;rwa [show k*sz+(i-k*sz)=i by omega] at this
    ·rw [List.take_add_one,Ck]
     simp only [Option.toList_some,List.map_append,List.map_cons,List.map_nil,Wx,List.sum_append,List.sum_cons,List.sum_nil,Rows.uptoBulkAll];omega
  obtain ⟨l,vs,U,ae,al,bl,bD⟩:=key len (Nat.le_refl _);have eh:vs.length=len:=by rw [ae.length,List.length_map,U]
  refine ⟨_,l,rfl,?_,?_⟩
  ·have l9:maxLen=9223372036854775807:=rfl
   by_cases jt:cap=0
   ·have pS:len=0:=by omega
    subst pS;subst jt;have:l=[]:=List.eq_nil_of_length_eq_zero U;subst this;exact .hE a _ _ (.inl C)
   ·have iy:∃ v,w.cell? a=some v:=by
     by_cases pS:len=0
     ·obtain ⟨az,ic⟩:=gw rfl
      have Ck:rest[0]? = some (rest[0]' ai):=List.getElem?_eq_getElem ai;have:=ic 0 ai;rw [Ck,Option.bind_eq_some_iff] at this;obtain ⟨cs',gJ,-⟩:=this;obtain ⟨g1,g2⟩:=L8 gJ;have:=g2 0 _ (List.getElem?_eq_getElem ai);rw [pS,add_add] at this;simp only [Nat.add_zero,Nat.zero_mul,Addr.add,if_true] at this;exact ⟨_,this⟩
     ·have:=bl 0 _ (List.getElem?_eq_getElem (by rw [Cj al,eh];exact Nat.mul_pos ai b7))
      simp only [Addr.add,if_true] at this;exact ⟨_,this⟩
    obtain ⟨v,av⟩:=iy;obtain ⟨aw,aG⟩:=Ww av;obtain ⟨g,off,spot⟩:=a;simp only at aw aG;subst aw;refine .aA g off len cap sz vs _ .bd bn (by rw [List.length_map,U]) (fun i u hu=>⟨aG,?_⟩) ae al ai aI bn bn;have:=bl i u hu;rwa [j4] at this
  ·simp only [Rows.uptoBulk]
   rw [List.take_of_length_le ai] at bD;omega
theorem trod_int {t:TypeId} {fuel:Nat} {cs:List Value} {y:DataW H×List MemPlace} (aK : Tryz.prog.underlying t=some (.int .i64)) (h:DataW.trod enc Tryz.prog w 0 (fun _=>true) true fuel t cs=some y) :
  ∃ n:Int,bO w (nP w) cs [.int .i64 n]∧1≤Rows.uptoBulk y.1:=by
 obtain ⟨n,rfl,rfl,-⟩:=DataW.trod_int aK h;exact ⟨n,.cons _ _ _ _ (.int _ _) .nil,by simp [Rows.uptoBulk]⟩
theorem Wy {α:Type} {t e:TypeId} {sz fuel:Nat} {cs:List Value} {x:DataW H×List MemPlace} (f:α→List ad) (m:α→Nat) (aK : Tryz.prog.underlying t=some (.slice e)) (aE : Tryz.prog.cellsOf e=sz) (b7:0<sz)
  (dB:∀ n cs y,n<fuel→DataW.trod enc Tryz.prog w 0 (fun _=>true) true n e cs=some y→∃ a:α,bO w (nP w) cs (f a)∧m a≤Rows.uptoBulk y.1)
  (h:DataW.trod enc Tryz.prog w 0 (fun _=>true) true fuel t cs=some x) :
  ∃ l:List α,bO w (nP w) cs [.aA sz (l.map fun a => .agg (f a)) .bd]∧(l.map m).sum+1≤Rows.uptoBulk x.1:=by
 obtain ⟨c,l,rfl,U,ae⟩:=L9 (fun a=>ad.agg (f a)) m aK aE b7 (fun n cs y aC ay _=>by
  obtain ⟨a,g1,g2⟩:=dB n cs y aC ay
  exact ⟨a,.agg cs.toArray,by simp [Value.cells],.agg _ _ (by simpa using g1),g2⟩) h
 exact ⟨l,.cons _ _ _ _ U .nil,ae⟩
theorem Wz (l:List (DataW H)):Rows.uptoBulk (.agg l)=Rows.uptoBulkAll l+1:=by simp [Rows.uptoBulk]
def zC (WA:String) (t:TypeId) (off WB:Nat):Field:={ name:=WA,type:=t,offset:=off,embedded:=false,tag := "", pkgPath := "", byteOffset:=WB }
theorem WC {t:TypeId} {fuel:Nat} {cs:List Value} {y:DataW H×List MemPlace} (aK : Tryz.prog.underlying t=some (.int .i64)) (h:DataW.trod enc Tryz.prog w 0 (fun _=>true) true fuel t cs=some y) :
  ∃ (n:Int) (v:Value),v.cells.toList=cs∧Rel w (nP w) v (.int .i64 n)∧1≤Rows.uptoBulk y.1:=by
 obtain ⟨n,rfl,rfl,-⟩:=DataW.trod_int aK h;exact ⟨n,.int .i64 n,rfl,.int _ _,by simp [Rows.uptoBulk]⟩
theorem Ma:∀ l:List Int,(l.map fun _=>1).sum=l.length
 | []=>rfl
 | _::r=>by rw [List.map_cons,List.sum_cons,Ma r,List.length_cons];omega
theorem WD {fuel:Nat} {cs:List Value} {x:DataW H×List MemPlace} (h:DataW.trod enc Tryz.prog w 0 (fun _=>true) true fuel 23 cs=some x) :
  ∃ l:List Int,bO w (nP w) cs [bI l]∧l.length+1≤Rows.uptoBulk x.1:=by
 obtain ⟨c,l,rfl,U,ae⟩:=L9 (sz:=1) (fun n=>ad.int .i64 n) (fun _=>1) Tryz.underlying23 aq ai (fun _ _ _ _ h _=>WC Tryz.underlying3 h) h;rw [Ma] at ae;exact ⟨l,.cons _ _ _ _ U .nil,ae⟩
def bC.weight (x:bC):Nat:=x.ms.length+1
theorem WE (fuel:Nat) (cs:List Value) (y:DataW H×List MemPlace) (h:DataW.trod enc Tryz.prog w 0 (fun _=>true) true fuel 69 cs=some y):∃ x:bC,bO w (nP w) cs (fj x)∧bC.weight x≤Rows.uptoBulk y.1:=by
 obtain ⟨xs,n,rfl,rfl,aI,hlen,ba⟩:=DataW.trod_struct Tryz.underlying69 h;have Mb : Tryz.prog.cellsOf 69 = 4:=by kernel_rfl
 have WG : Tryz.prog.cellsOf 3 = 1:=by kernel_rfl
 have WH : Tryz.prog.cellsOf 23 = 1:=by kernel_rfl
 rw [Mb] at aI
 match cs,aI,xs,hlen with
 | [v0,v1,v2,v3],_,[XO,BA,Fk,Kv],_=>
  have bB:=ba 0 (zC "Atom" 3 0 0) C;have U:=ba 1 (zC "No" 3 1 8) C;have ae:=ba 2 (zC "Yes" 3 2 16) C;have al:=ba 3 (zC "Methods" 23 3 24) C;simp only [zC,Mb,WG,WH,List.drop,List.take] at bB U ae al;obtain ⟨a,g0,xr⟩:=trod_int Tryz.underlying3 bB;obtain ⟨no,g1,ix⟩:=trod_int Tryz.underlying3 U;obtain ⟨Gg,g2,dk⟩:=trod_int Tryz.underlying3 ae;obtain ⟨ms,g3,n2⟩:=WD al;refine ⟨⟨a,no,Gg,ms⟩,?_,?_⟩
  ·have:fj ⟨a,no,Gg,ms⟩=[.int .i64 a]++([.int .i64 no]++([.int .i64 Gg]++[bI ms])):=rfl
   rw [this];exact bO.zB (vs:=[v0]) g0 (bO.zB (vs:=[v1]) g1 (bO.zB (vs:=[v2]) g2 g3))
  ·simp only [Wz,List.map_cons,List.map_nil,Rows.uptoBulkAll,bC.weight]
   omega
theorem WI:∀ g:List bC,g.length≤(g.map bC.weight).sum
 | []=>Nat.le_refl _
 | x::r=>by rw [List.map_cons,List.sum_cons,List.length_cons];have:=WI r;unfold bC.weight at *;omega
theorem XP {fuel:Nat} {cs:List Value} {x:DataW H×List MemPlace} (h:DataW.trod enc Tryz.prog w 0 (fun _=>true) true fuel 28 cs=some x) :
  ∃ g:List bC,bO w (nP w) cs [eR g]∧(g.map bC.weight).sum+1≤Rows.uptoBulk x.1:=by
 obtain ⟨g,U,ae⟩:=Wy (sz:=4) fj bC.weight Tryz.underlying28 aq ai (fun m cs y _ ay=>WE m cs y ay) h;exact ⟨g,U,ae⟩
end
end Go.Proofs.YtnafpeohfbglmaaGreat
namespace Go.Proofs.YtnafpeohfbglmaaGreat
open Go.bj Go.ChangeShapes Go.WideShapes Go.ChangeAt Go.RowKit
theorem Mc {H:Type} {enc:TypeId×Value→H} {P:Program} {W vg:World} (aI:laidOutB P=true):∀ {fz:List TypeId} {vs:List Value} {b5:List (DataW H)} {bK:List MemPlace} {sp:Nat→Bool},(∀ t∈fz,P.readableRec t=true∧t<P.types.size) →
    DataW.TrodAll enc P W 0 (fun _=>true) true fz vs b5 bK→(∀ p∈bK,W.sameAt vg p)→(∀ p∈bK,sp p.block=true)→DataW.TrodAll enc P vg 0 sp true fz vs b5 bK
  | [],[],[],_,_,_,h,_,_=>h
  | t::fz,v::vs,d::b5,bK,sp,aK,h,aw,an=>by
    obtain ⟨p,q,U,ae,rfl⟩:=h;obtain ⟨eE,e9⟩:=aK t List.mem_cons_self
    exact ⟨p,q,WideElems.Trod_stays aI eE e9 U (fun x ab=>aw x (List.mem_append_left _ ab)) (fun x ab=>an x (List.mem_append_left _ ab)),
      Mc aI (fun t cS=>aK t (List.mem_cons_of_mem _ cS)) ae (fun x ab=>aw x (List.mem_append_right _ ab)) (fun x ab=>an x (List.mem_append_right _ ab)),rfl⟩
  | [],[],_::_,_,_,_,h,_,_=>h.elim
  | [],_::_,_,_,_,_,h,_,_=>h.elim
  | _::_,[],_,_,_,_,h,_,_=>h.elim
  | _::_,_::_,[],_,_,_,h,_,_=>h.elim
theorem XQ {H:Type} {enc:TypeId×Value→H} {f:FuncId} {fn:Func} {spec:ChangeSpec} {W:World} {args:Array Value} {xs:List ad} {b5 gs:List (DataW H)} {before:List MemPlace}
  (aI:laidOutB Tryz.prog=true) (aN:∀ t∈fn.params.toList,Tryz.prog.readableRec t=true∧t < Tryz.prog.types.size) (az:fn.resultTypes = #[4]) (av:spec.vars=[])
  (gw:gs=[]→spec.fn H (b5++gs)={ results:=[.lit (.bool true)],args:=b5 })
  (gR:DataW.Whole enc Tryz.prog fn.params.toList spec.vars false W args.toList b5 gs before) (en:bO W (nP W) args.toList xs) (aE:gg Tryz.prog f xs (fun _=>none) (fun o ah=>o = .ret (.bool true)∧ah=fun _=>none)) :
  Calls Tryz.prog f args W fun e vg=>∃ v,e = .returned v∧spec.post enc Tryz.prog fn false true false false W args v vg:=by
 have h:=aE.2 W (nP W) args.toList (Wv W) en;rw [Array.toArray_toList] at h;refine Calls.mono h fun e vg ⟨cB,o,ah,bb,oS,⟨ag,gY⟩,hle,aD,b6⟩=>?_
 subst ag;cases e with
 | returned v=>
  have an:Rel vg bb v (.bool true):=oS;cases an;have Md:Below W.heap.size W vg:=⟨hle.os,hle.tape,hle.output,hle.size,fun k eL=>aD.heap k eL C⟩;have aG:=gR.lt;have WJ:=gR;obtain ⟨p,q,vG,F9,rfl,XR,eT⟩:=gR;rw [av] at F9;obtain ⟨rfl,rfl⟩:=trodVars_none F9;have w0:=gw C;refine ⟨_,rfl,b5,[],_,[],p,[],WJ,?_,?_,?_,Md.frame _,fun h=>by cases h⟩
  ·rw [w0,az]
   exact trodAll_cons_mk (shut_bool Tryz.underlying4 _) trodAll_mk0
  ·rw [w0]
   exact Mc aI aN vG (fun x ab=>Md.same (aG x (by simpa using ab))) (fun x ab=>by simpa using aG x (by simpa using ab))
  ·rw [w0,av];exact rfl
 | panicked da=>exact oS.elim
 | outgrown=>exact oS.elim
theorem XS {P:Program} {W:World} {r:Reach} {b:Nat} {t e:TypeId} {v:Value} (aK:P.underlying t=some (.slice e)) (h:Value.okWide P W r b t v):v.cells = #[v]:=by
 obtain ⟨a,n,c,rfl⟩:=okWide_slice aK h;rfl
theorem XT {w:World} {p:bN} {v:Value} {x:ad} (av:v.cells = #[v]) (h:bO w p v.cells.toList [x]):Rel w p v x:=by
 rw [av] at h;cases h with
 | cons _ _ _ _ h _=>exact h
theorem laidOut:laidOutB Tryz.prog=true:=by kernel_rfl
end Go.Proofs.YtnafpeohfbglmaaGreat
namespace Go.Proofs.YtnafpeohfbglmaaGreat
theorem XU:mapsRowed Tryz.prog=true:=by kernel_rfl
theorem XV:(Tryz.prog.stops==[])=true:=by kernel_rfl
theorem XW:(Tryz.prog.stopKnobs==[])=true:=by kernel_rfl
theorem XX : Tryz.prog.stopsHeard=true:=by kernel_rfl
theorem XY : Tryz.prog.mayEnter=true:=by kernel_rfl
theorem XZ:(Rows.treeSmallsUptoRow.lifted == Tryz.prog.liftsFinal)=true:=by kernel_rfl
theorem X0:(Tryz.prog.make==some Rows.treeSmallsUptoRow.make)=true:=by kernel_rfl
theorem X1:(Rows.treeSmallsUptoRow.plainKeys == Tryz.prog.plainKeys)=true:=by kernel_rfl
end Go.Proofs.YtnafpeohfbglmaaGreat
