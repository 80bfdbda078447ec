import Derived.Test.YtnafpeohfbglmaaGreatPd
import Derived.WideKeyRuns
set_option linter.unusedVariables false
set_option linter.unusedSimpArgs false
set_option maxRecDepth 100000
set_option maxHeartbeats 4000000
theorem wb {p:Prop} (h:p:=by (first|rw [nt (by omega)]|(rw [mi aD,Iw,iq,iq];congr 1;split<;>omega))):p:=h
theorem wc {p:Prop} (h:p:=by (first|rfl|(rw [aI];simp [iq,aV aI])|(rw [aI];simp [iq]))):p:=h
theorem ux {p:Prop} (h:p:=by show f.kids.length-(j+1)<f.kids.length-j;omega):p:=h
theorem lP {p:Prop} (h:p:=by rw [ae];exact List.mem_cons_self):p:=h
theorem sA {p:Prop} (h:p:=by rw [ae];simp):p:=h
namespace Go.Proofs.YtnafpeohfbglmaaGreat
open Go.bj Go.bY
theorem ym {w:bT} {up:List Nat} {c m:Nat} (h:up[c]? = some m):(oi w up)[2+c]? = some (.int .u64 (m:Int)):=by
 unfold oi hf;rw [List.getElem?_append_right bn];simp [h]
theorem IQ (w:bT) (up:List Nat) (c bw m o:Nat) (aE:c<63) (hm:up[c]? = some m) (gQ:m<2^64) (aw:w.owner[bw]? = some (o:Int)) (ag:o<64):a7 Tryz.prog 209 [eC w up,.int .i64 (c:Int),.int .i64 (bw:Int)] (.bool (m.testBit o)):=by
 have an:=bQ;refine a7.bp ak call209 Tryz.func209 C C fun s I=>?_
 have U:=wa m o gQ ag;have ae:(w.owner.map bg)[bw]? = some (.int .i64 (o:Int)):=by simp [aw,bg]
 have al:=ym (w:=w) hm;unfold eC;unfold oi hf bI at al ⊢;refine cy ?_;refine aM.kB ak c C C C C C C C C C C aE ?_;refine aM.x9 ak C C C C C C C (by simpa using al) ?_;refine cH ?_;exact bA I
theorem Ea (c:Nat) (aE:c<64):a7 Tryz.prog 197 [.int .u64 1,.int .i64 (c:Int)] (.int .u64 ((1|||2^c:Nat):Int)):=yl 1 c dd aE
def mn (w:bT) (u:List Nat):List ad:=oi w (pad u)
theorem IS {w:bT} {u:List Nat} (h:u.length<63) (v:Nat):eg (2+u.length*1) [.int .u64 (v:Int)] (mn w u)=mn w (u++[v]):=by
 rw [ru];unfold mn oi;rw [List.set_append_right _ _ (by simp [hf]),← P0 h v,List.map_set];congr 2;simp [hf]
theorem IT {w:bT} {u:List Nat} (h:u.length≤63):(mn w u).length=65:=by
 unfold mn oi;rw [List.length_append,List.length_map,PZ h];rfl
theorem Qu {w:bT} {u:List Nat} {c m:Nat} (h:u[c]? = some m):(mn w u)[2+c*1]? = some (.int .u64 (m:Int)):=by
 rw [Nat.mul_one];exact ym (v7 h)
theorem Qv (j:Nat) (aS:j<3):[1,3,5].take (j+1)=[1,3,5].take j++[1|||2^j]:=by
 rcases j with _|_|_|j
 ·rfl
 ·rfl
 ·rfl
 ·omega
theorem Qw (w:bT) (hw:kc w):a7 Tryz.prog 165 [iR w] (.cl [eC w (pad (hW w.bK)),.bool true]):=by
 have an:=bQ;have qd:=hw.mP;have gC:=hw.bx;refine a7.bp ak call165 Tryz.func165 C C fun s I=>?_
 unfold iR hf gb bI;refine dF ?_;refine aa.dR 15 C dq ?_;refine hv ?_;refine af.cond C (fun h=>?_) (fun _=>?_)
 ·simp at h;omega
 refine af.skip ?_
 repeat (first|(refine AD ?_)|refine aa.iM I C C C C C C (fun b I=>?_)|(refine AE ?_))
 refine af.cT [1,4] C I (σ:=Nat) (fun j=>[(24,.int .i64 (j:Int))]) (fun j=>[(.own b,.box 234 (mn w ([1,3,5].take j)))]) (fun j=>j≤3) (fun j=>3-j) 0 (Nat.zero_le _) (c3 C) bM ?_;rintro j aS I;refine cL ?_;refine af.cond C (fun aG=>?_) (fun bk=>?_)
 ·have aG:j<3:=by have:=of_decide_eq_true aG;omega
  have U:=Ea j ai;have e:eg (2+j*1) [.int .u64 ((1|||2^j:Nat):Int)] (mn w ([1,3,5].take j))=mn w ([1,3,5].take (j+1)):=by
   have aI:([1,3,5].take j).length=j:=by simp;omega
   have:=IS (w:=w) (u:=[1,3,5].take j) ai (1|||2^j);rw [aI] at this;rw [this,Qv j aG]
  have hlen:(mn w ([1,3,5].take j)).length=65:=IT dq;refine cy ?_;refine aM.arr ak j C C C C C C C C C C ai ?_;refine aM.kF ak I _ C C C C C C C C C C a1 (by rw [hlen];show 2+j*1+1≤65;omega) e (fun I=>?_);refine gi ?_;exact bX.mk (j+1) I aG c7 bM (by show 3-(j+1)<3-j;omega)
 have bk:j=3:=by have:=of_decide_eq_false bk;omega
 subst bk;refine bP ?_;refine af.cT [1,4,36,37] C I (σ:=Nat) (fun j=>[(38,.int .i64 (j:Int))]) (fun j=>[(.own b,.box 234 (mn w (hW (w.bK.take j))))]) (fun j=>j≤w.bK.length) (fun j=>w.bK.length-j) 0 (Nat.zero_le _) (c3 C) bM ?_;rintro j aS I;refine cL ?_;refine af.cond C (fun aG=>?_) (fun bk=>?_);rotate_left
 ·have bk:j=w.bK.length:=by simp at bk;omega
  subst bk;rw [List.take_length] at I ⊢;have uy:w.owner.all (fun c=>decide (c≥3)&&decide (c<3+(w.bK.length:Int)))=true:=by
   rw [List.all_eq_true];intro o ag;have:=hw.own o ag;simp;omega
  have oj:=IK 199 [eC w (pad (hW w.bK))] [] _ w.owner ai (fun x _=>Qr w (pad (hW w.bK)) x qd);rw [uy] at oj;refine af.lG I 4 b C a1 (fun I=>?_);unfold eC at oj ⊢;refine cH ?_;exact bA I
 have aG:j<w.bK.length:=by simpa using aG
 obtain ⟨l,ay,ey⟩:=cD (f:=bI) aG;have jc:=Ir hw.od ay;have U:=Ea (3+j) ai;have ju:(hW (w.bK.take j)).length=3+j:=by rw [yd,List.length_take];omega
 have Eb:∀ m∈hW (w.bK.take j),m<2^64:=vZ w9;have je:IntKind.wrap .i64 (3+(j:Int))=((3+j:Nat):Int):=by rw [e0 ai ai];omega
 have qe:l.length<100:=by have:=hw.short l (List.mem_of_getElem? ay);omega
 generalize om:hW (w.bK.take j)=X5 at I ju Eb;unfold bI at ey;have U:a7 Tryz.prog 197 [.int .u64 1,.int .i64 (IntKind.wrap .i64 (3+(j:Int)))] (.int .u64 ((1|||2^(3+j):Nat):Int)):=by rw [je];exact U
 refine cy ?_;refine af.cT [1,4,36,37,38,6,7,46,47] C I (σ:=Nat) (fun k=>[(48,.int .i64 (k:Int)),(8,.int .u64 (((l.take k).foldl (fun s p=>s|||X5.getD p.toNat 0) (1|||2^(3+j)):Nat):Int))]) (fun k=>[(.own b,.box 234 (mn w X5))]) (fun k=>k≤l.length) (fun k=>l.length-k) 0 (Nat.zero_le _) (c3 C) bM ?_;rintro k aD I;refine cL ?_;refine af.cond C (fun c6=>?_) (fun e1=>?_);rotate_left
 ·have e1:k=l.length:=by simp at e1;omega
  subst e1;rw [List.take_length] at ⊢;have e:eg (2+(3+j)*1) [.int .u64 ((vY X5 l:Nat):Int)] (mn w X5)=mn w (hW (w.bK.take (j+1))):=by
   rw [mi ay,PY,om,← ju];exact IS ai _
  have hlen:(mn w X5).length=65:=IT ai;unfold vY at e;rw [ju] at e;refine bP ?_;refine aa.arr ak (3+j) C C C C C C C C C je ai ?_;refine aa.kF ak I _ C C C C C C C C C a1 (by rw [hlen];show 2+(3+j)*1+1≤65;omega) e (fun I=>?_);refine h8 ?_;exact bX.mk (j+1) I aG c7 bM (by show w.bK.length-(j+1)<w.bK.length-j;omega)
 have c6:k<l.length:=by simpa using c6
 obtain ⟨p,aE,x6⟩:=cD (f:=bg) c6;obtain ⟨g1,g2,g3⟩:=Is jc aE;obtain ⟨q,rfl⟩:∃ q:Nat,p=q:=⟨p.toNat,by omega⟩;have k8:=vO (l.take k) q (by have:=List.length_take_le' k l;omega);have sB:(l.take k).contains (q:Int)=false:=by simpa using g3
 rw [sB] at k8;unfold bI at k8;rw [List.map_take] at k8;unfold bg at x6 k8;obtain ⟨m,hm⟩:∃ m,X5[q]? = some m:=⟨X5[q]' ai,List.getElem?_eq_getElem _⟩;refine fA ?_;refine aa.dR 55 C (decide_eq_false ai) ?_;refine d' ?_;refine aa.dR 61 C (by rw [je];exact decide_eq_false ai) ?_;refine d' ?_;refine aa.slice ak 0 k C C C C C C C C (.inr C) (.inl ⟨rfl,rfl⟩) (.inr ⟨_,_,rfl,rfl⟩) (.inl ⟨rfl,rfl⟩) (Nat.zero_le _) (by simpa using aD) ?_;rw [List.drop_zero];refine cH ?_;refine aa.arr ak q C C C C C C C C C C ai ?_;refine aa.kE ak I C C C C C C a1 C (Qu hm) ?_;refine aa.bits (((l.take k).foldl (fun s p=>s|||X5.getD p.toNat 0) (1|||2^(3+j))|||m:Nat):Int) C C C C C C (uf (D0 Eb _ _ (DZ dd (Nat.pow_lt_pow_right ai ai))) (Eb m (List.mem_of_getElem? hm))) ?_;refine h8 ?_;refine bX.mk (k+1) I c6 (by repeat (first|exact trivial|refine ⟨⟨_,rfl,aR⟩,?_⟩|refine ⟨⟨_,rfl,a8.of_eq (by (first|rw [nt ai]|(rw [mi aE,List.foldl_append];simp [hm])))⟩,?_⟩)) bM (by show l.length-(k+1)<l.length-k;omega)
end Go.Proofs.YtnafpeohfbglmaaGreat
namespace Go.Proofs.YtnafpeohfbglmaaGreat
open Go.bj Go.bY
theorem Qx (fv:ad) (K aL:a6) (q:Bool) (x:ax) (h:c2 Tryz.prog fv [x.cj] K (fun o K=>o = .ret (.bool q)∧K=aL)):c2 Tryz.prog (.func 234 [] [.bq [fv] 0]) [x.cj] K (fun o K=>o = .ret (.bool (!q))∧K=aL):=by
 refine c2.eP (first:=[]) (cap:=[.bq [fv] 0]) ?_;refine bu.bp ak call234 Tryz.func234 C C fun s I=>?_
 rw [ax.cO] at h ⊢;refine dF ?_;refine aa.fO rfl rfl rfl rfl rfl rfl h I (au.all _) ?_ (fun _ _ ⟨h,_⟩ _=>by cases h);rintro _ _ ⟨⟨⟩,rfl⟩ I;rw [List.append_nil] at I ⊢;refine dO ?_;exact Fin.bH I C aR (au.all _) ⟨rfl,rfl⟩
theorem Qy (f:FuncId) (hA gr:List ad) (xs:List ax) (T:Nat→a6) (cc:Nat→Bool) (aI:xs.length<bt) (h:∀ j x,xs[j]? = some x→(∀ i,i<j→cc i=true)→c2 Tryz.prog (.func f hA gr) [x.cj] (T j) (fun o K=>o = .ret (.bool (cc j))∧K=T (j+1))) :
  bu Tryz.prog 200 [.aA 6 (xs.map ax.cj) .bd,.func f hA gr] (T 0)
   (fun o K=>(o = .ret (.bool true)∧K=T xs.length∧∀ i,i<xs.length→cc i=true)∨∃ j,j<xs.length∧cc j=false∧(∀ i,i<j→cc i=true)∧o = .ret (.bool false)∧K=T (j+1)):=by
 refine bu.bp ak call200 Tryz.func200 C C fun s I=>?_
 have aE:=DJ (.func 234 [] [.bq [.func f hA gr] 0]) xs T (fun j => !cc j) aI (fun j x ab aY=>Qx (.func f hA gr) (T j) (T (j+1)) (cc j) x (h j x ab (fun i ek=>by simpa using aY i ek)));refine dF ?_;refine aa.b0 rfl rfl rfl rfl rfl aE I (au.all _) ?_ (fun _ _ h _=>by rcases h with ⟨h,_⟩|⟨_,_,_,_,h,_⟩<;>cases h);rintro _ _ (⟨⟨⟩,rfl,U⟩|⟨j,U,ae,al,⟨⟩,rfl⟩) I
 all_goals rw [List.append_nil] at I ⊢
 ·refine dO ?_
  exact Fin.bH I C aR (au.all _) (.inl ⟨rfl,rfl,fun i aY=>by simpa using U i aY⟩)
 ·refine dO ?_
  exact Fin.bH I C aR (au.all _) (.inr ⟨j,U,by simpa using ae,fun i aY=>by simpa using al i aY,rfl,rfl⟩)
def kH (jR:Nat) (k:Int):a6:=[(.own jR,.box 3 [.int .i64 k])]
theorem Qz (w:bT) (d:Nat) (k:Int) (f:ax):eX w d k f=if decide (k-1<0)||decide (d=0) then (false,k-1) else if iE w f then hd w (d-1) (k-1) f.kids else (false,k-1):=by
 cases f;rw [eX];rfl
def jS (w:bT) (d:Nat) (k:Int) (ks:List ax):Nat→Int
  | 0=>k
  | j+1=>match ks[j]? with
    | some x=>(eX w d (jS w d k ks j) x).2
    | none=>jS w d k ks j
theorem uz (w:bT) (d:Nat) (k:Int) (x:ax) (r:List ax):∀ j,jS w d k (x::r) (j+1)=jS w d (eX w d k x).2 r j
  | 0=>by simp [jS]
  | j+1=>by
    rw [jS,uz w d k x r j,List.getElem?_cons_succ];rfl
theorem IU (w:bT) (d:Nat):∀ (ks:List ax) (k:Int),
    (∀ j x,ks[j]? = some x→(eX w d (jS w d k ks j) x).1=true)→hd w d k ks=(true,jS w d k ks ks.length)
  | [],_,_=>by rw [hd];rfl
  | x::r,k,h=>by
    have bB:(eX w d k x).1=true:=h 0 x C;rw [hd,if_pos bB,IU w d r _ (fun j y aS=>by rw [← uz];exact h (j+1) y (by simpa using aS)),List.length_cons,uz]
theorem IV (w:bT) (d:Nat):∀ (ks:List ax) (k:Int) (j:Nat) (x:ax),ks[j]? = some x→(∀ (i:Nat) y,i<j→ks[i]? = some y→(eX w d (jS w d k ks i) y).1=true)→(eX w d (jS w d k ks j) x).1=false →
    hd w d k ks=(false,jS w d k ks (j+1))
  | [],_,_,_,h,_,_=>by simp at h
  | y::r,k,0,x,h,_,ab=>by
    obtain rfl:y=x:=by simpa using h
    have ch:(eX w d k y).1=false:=ab;rw [hd,if_neg (by rw [ch];simp),uz];rfl
  | y::r,k,j+1,x,h,aY,ab=>by
    have bB:(eX w d k y).1=true:=aY 0 y (Nat.succ_pos _) C;rw [hd,if_pos bB,uz];rw [uz] at ab;exact IV w d r _ j x gn (fun i z ek bE=>by rw [← uz];exact aY (i+1) z ai (by simpa using bE)) ab
mutual
theorem IW:∀ (x:ax) (w:bT) (d:Nat) (k:Int),(eX w d k x).1=true→0≤(eX w d k x).2∧(eX w d k x).2≤k
  | .mk o a p c n ks,w,d,k,h=>by
    rw [eX] at h ⊢;split at h
    · cases h
    · rename_i aE
      rw [if_neg aE];simp only [Bool.or_eq_true,decide_eq_true_eq,not_or] at aE;split at h
      · rename_i aC
        rw [if_pos aC];have:=IX ks w (d-1) (k-1) h ai;omega
      · cases h
theorem IX:∀ (ks:List ax) (w:bT) (d:Nat) (k:Int),(hd w d k ks).1=true→0≤k→0≤(hd w d k ks).2∧(hd w d k ks).2≤k
  | [],w,d,k,_,bB=>by rw [hd];exact ⟨bB,Int.le_refl _⟩
  | x::r,w,d,k,h,bB=>by
    rw [hd] at h ⊢;split at h
    · rename_i ab
      rw [if_pos ab];have U:=IW x w d k ab;have ae:=IX r w d _ h U.1;omega
    · cases h
end
theorem IY {w:bT} {d:Nat} {ks:List ax} {k:Int} (bB:0≤k):∀ (j:Nat),(∀ (i:Nat) y,i<j→ks[i]? = some y→(eX w d (jS w d k ks i) y).1=true)→0≤jS w d k ks j∧jS w d k ks j≤k
  | 0,_=>⟨bB,Int.le_refl _⟩
  | j+1,h=>by
    have U:=IY bB j fun i y aY ay=>h i y ai ay
    rw [jS];cases ab:ks[j]? with
    | none=>exact U
    | some x=>
      have ae:=IW x w d _ (h j x (Nat.lt_succ_self _) ab);simp only;omega
theorem QA (w:bT) (up:List Nat) (jR:Nat) (y:ax) (d:Nat) (k:Int) (ar:d≤12) (lY:0<d)
  (h:bu Tryz.prog 202 [eC w up,y.cj,.ptr jR 0,.int .i64 ((d-1:Nat):Int)] (kH jR k) (fun o K=>o = .ret (.bool (eX w (d-1) k y).1)∧K=kH jR (eX w (d-1) k y).2)) :
  c2 Tryz.prog (.func 238 [] [.bq [eC w up] 0,.bq [.ptr jR 0] 0,.bq [.int .i64 (d:Int)] 0]) [y.cj] (kH jR k) (fun o K=>o = .ret (.bool (eX w (d-1) k y).1)∧K=kH jR (eX w (d-1) k y).2):=by
 refine c2.eP (first:=[]) (cap:=[.bq [eC w up] 0,.bq [.ptr jR 0] 0,.bq [.int .i64 (d:Int)] 0]) ?_;refine bu.bp ak call238 Tryz.func238 C C fun s I=>?_
 have hw:IntKind.wrap .i64 ((d:Int)-1)=((d-1:Nat):Int):=by rw [e0 ai ai];omega
 rw [ax.cO] at h ⊢;rw [← hw] at h;unfold eC at h ⊢;refine dF ?_;refine aa.b0 rfl rfl rfl rfl rfl h I (au.all _) ?_ (fun _ _ ⟨h,_⟩ _=>by cases h);rintro _ _ ⟨⟨⟩,rfl⟩ I;rw [List.append_nil] at I ⊢;refine dO ?_;exact Fin.bH I C aR (au.all _) ⟨rfl,rfl⟩
theorem QB (w:bT) (up:List Nat) (hw:w.bK.length≤60) (jR:Nat):∀ (n:Nat) (f:ax) (d:Nat) (k:Int),f.size≤n→n<bt→d≤12→0≤k→k≤bt →
    bu Tryz.prog 202 [eC w up,f.cj,.ptr jR 0,.int .i64 (d:Int)] (kH jR k) (fun o K=>o = .ret (.bool (eX w d k f).1)∧K=kH jR (eX w d k f).2):=by
  have an:=bQ;intro n
  induction n with
  | zero=>intro x d k h;have:=x.size_eq;omega
  | succ n a'=>
    intro f d k aC kp ar kV hG;have jT:IntKind.wrap .i64 (k-1)=k-1:=e0 ai ai;refine bu.bp ak call202 Tryz.func202 C C fun s I=>?_
    have ml:=f.size_eq;have aE:=Qz w d k f;have U:=Ql f.op;have ae:=D' f;have al:=Qs w up f.path ai;have bl:=Qo w up f.cls hw;rw [ax.cO] at ae ⊢;unfold eC bI at al;unfold eC at bl ⊢;unfold kH at I ⊢;refine gu I ?_;intro I;rw [jT] at I ⊢
    repeat' (first|(with_reducible first|apply af.seq|apply cf|apply hb|apply ga|apply ih|apply af.ret|apply af.skip|apply af.block)|refine dK C ?_|refine af.cK ?_|refine aa.nil ?_|refine af.gV C ?_|refine cG C ?_|refine aa.skip C C C ?_|refine aM.nil ?_|refine aM.step C ?_|refine aa.eB C C C C C cq ?_|refine aM.eB C C C C C cq ?_|(fail_if_success refine aa.same true C ?_);(fail_if_success refine aa.same false C ?_);refine aa.iB C C (fun h=>?_) (fun h=>?_)|(fail_if_success refine aM.same true C ?_);(fail_if_success refine aM.same false C ?_);refine aM.iB C C (fun h=>?_) (fun h=>?_)|refine af.cond C (fun h=>?_) (fun h=>?_))
    all_goals first
      | (have key:eX w d k f=(false,k-1):=by
          clear a' I U ae al bl aC ml jT
          rw [aE]
          simp only [iE,nB,ax.du] at *
          grind
         exact Fin.bH (K:=kH jR (k-1)) I C aR (by simp only [kH];repeat (first|exact au.nil|(apply au.cons;· repeat (first|exact aP.here|apply aP.there)))) ⟨by rw [key],by rw [key];rfl⟩)
      | (have A1:f.kids=[]:=by
          clear a' I U ae al bl aC ml jT aE
          refine List.eq_nil_of_length_eq_zero ?_
          simp only [iE,nB,ax.du,vQ,List.length_map] at *
          grind
         have key:eX w d k f=(iE w f,k-1):=by
          clear a' I U ae al bl aC ml jT
          rw [aE,A1,hd]
          grind
         refine Fin.bH (K:=kH jR (k-1)) I C (a8.of_eq (congrArg ad.bool ?_)) (by simp only [kH];repeat (first|exact au.nil|(apply au.cons;· repeat (first|exact aP.here|apply aP.there)))) ⟨by rw [key],by rw [key];rfl⟩
         clear a' I U ae al bl aC ml jT aE key
         simp only [iE,nB,ax.du,vQ,List.length_map] at *
         grind)
      | skip
    have Ec:iE w f=true:=by
      clear a' I U ae al bl aC ml jT aE;simp only [iE,nB,ax.du,List.length_map] at *;simp at *;grind
    have lY:0<d:=by
      rcases Nat.eq_zero_or_pos d with rfl|h
      · simp_all
      · exact h
    have yn:¬ k-1<0:=by
      clear a' I U ae al bl;grind
    have key:eX w d k f=hd w (d-1) (k-1) f.kids:=by
      rw [aE,if_neg dq,if_pos Ec]
    have hlen:=ax.ui f.kids
    have A1:=Qy 238 [] [.bq [eC w up] 0,.bq [.ptr jR 0] 0,.bq [.int .i64 (d:Int)] 0] f.kids (fun j=>kH jR (jS w (d-1) (k-1) f.kids j)) (fun j=>match f.kids[j]? with|some x=>(eX w (d-1) (jS w (d-1) (k-1) f.kids j) x).1|none=>true) ai (fun j x ab aY=>by
      have qf:=IY (w:=w) (d:=d-1) (ks:=f.kids) (k:=k-1) ai j (fun i y ek ay=>by have:=aY i ek;simp only [ay] at this;simpa using this)
      have hm:=ax.jP (List.mem_of_getElem? ab)
      have:=QA w up jR x d (jS w (d-1) (k-1) f.kids j) ar lY (a' x (d-1) _ ai ai ai qf.1 ai)
      simp only [jS,ab]
      exact this)
    unfold eC at A1;skip;refine aa.b0 C C C C C A1 I (by simp only [kH,jS];repeat (first|exact au.nil|(apply au.cons;· repeat (first|exact aP.here|apply aP.there)))) ?_ (fun _ _ h _=>by rcases h with ⟨h,_⟩|⟨_,_,_,_,h,_⟩<;>cases h);rintro _ _ (⟨⟨⟩,rfl,g1⟩|⟨j,g1,g2,g3,⟨⟩,rfl⟩) I
    · have:=IU w (d-1) f.kids (k-1) (fun j x ab=>by have:=g1 j (List.getElem?_eq_some_iff.1 ab).1;simp only [ab] at this;simpa using this)
      rw [key,this];refine dO ?_;exact Fin.bH (K:=kH jR _) I C aR (by simp only [kH,List.cons_append,List.nil_append];repeat (first|exact au.nil|(apply au.cons;· repeat (first|exact aP.here|apply aP.there)))) ⟨rfl,rfl⟩
    · obtain ⟨x,ab,-⟩:=cD (f:=ax.cj) g1
      simp only [ab] at g2;have:=IV w (d-1) f.kids (k-1) j x ab (fun i y ek ay=>by have:=g3 i ek;simp only [ay] at this;simpa using this) (by simpa using g2);rw [key,this];refine dO ?_;exact Fin.bH (K:=kH jR _) I C aR (by simp only [kH,List.cons_append,List.nil_append];repeat (first|exact au.nil|(apply au.cons;· repeat (first|exact aP.here|apply aP.there)))) ⟨rfl,rfl⟩
end Go.Proofs.YtnafpeohfbglmaaGreat
namespace Go.Proofs.YtnafpeohfbglmaaGreat
open Go.bj Go.bY
abbrev yo (w:bT):List Nat:=pad (hW w.bK)
abbrev fx (w:bT):ad:=eC w (yo w)
theorem QC (w:bT) (hw:w.bK.length≤60) (f:ax) (ba:f.size<bt):dM Tryz.prog (.func 201 [] [.bq [fx w] 0]) [f.cj] (.bool (iQ w f)):=by
 have an:=bQ;refine dM.eP (first:=[]) (cap:=[.bq [fx w] 0]) ?_;refine a7.bp ak call201 Tryz.func201 C C fun s I=>?_
 rw [ax.cO];unfold fx eC
 repeat (first|(refine OK I ?_;clear I;intro I)|refine aa.dE ak I rfl rfl rfl rfl rfl rfl rfl (fun cv I=>?_))
 have aC:=QB w (yo w) hw cv f.size f 12 24 (Nat.le_refl _) ba ai ai ai;rw [ax.cO] at aC;unfold eC at aC;refine aa.b0 C C C C C aC I (by simp only [kH];repeat (first|exact au.nil|(apply au.cons;· repeat (first|exact aP.here|apply aP.there)))) ?_ (fun _ _ ⟨h,_⟩ _=>by cases h);rintro _ _ ⟨⟨⟩,rfl⟩ I;rw [List.append_nil] at I ⊢;refine aa.k2 I [] bM fun I=>?_
 refine dO ?_;exact bA I
theorem QD (w:bT) (hw:w.bK.length≤60) (l:List ax) (aI:l.length<bt) (ba:∀ f∈l,f.size<bt):a7 Tryz.prog 166 [fx w,.aA 6 (l.map ax.cj) .bd] (.bool (l.all (iQ w))):=by
 have an:=bQ;refine a7.bp ak call166 Tryz.func166 C C fun s I=>?_
 have U:=Qc 201 [] [.bq [fx w] 0] (iQ w) l aI (fun x ab=>QC w hw x (ba x ab));unfold fx eC at *;refine cy ?_;exact bA I
theorem Ed (w:bT) (hw:kc w) (l:List ax) (aI:l.length<bt) (ba:∀ f∈l,f.size<bt):a7 Tryz.prog 122 [iR w,.aA 6 (l.map ax.cj) .bd] (.cl [fx w,.bool (l.all (iQ w))]):=by
 have an:=bQ;refine a7.bp ak call122 Tryz.func122 C C fun s I=>?_
 have U:=Qw w hw;have ae:=QD w hw.mP l aI ba;unfold iR hf gb bI at *;unfold fx eC at *;refine cy ?_;exact bA I
theorem QE (w:bT) (hw:kc w) (f:ax) (ba:f.size<bt):a7 Tryz.prog 229 [iR w,f.cj] (.int .i64 (if iQ w f then 0 else 2)):=by
 have an:=bQ;refine a7.bp ak call229 Tryz.func229 C C fun s I=>?_
 have U:=Ed w hw [f] dq (by intro g ao;rw [List.mem_singleton] at ao;subst ao;exact ba);have ae:=Qt (iQ w f);rw [List.map_cons,List.map_nil,ax.cO] at U;rw [List.all_cons,List.all_nil,Bool.and_true] at U;rw [ax.cO];unfold iR hf gb bI at *;refine cy ?_;exact bA I
theorem IZ (v:Int×Int) (n:Int):a7 Tryz.prog 170 [fr v,.int .i64 n] (.bool (gE n v)):=by
 have an:=bQ;refine a7.bp ak call170 Tryz.func170 C C fun s I=>?_
 unfold fr
 repeat' (first|(with_reducible first|apply af.seq|apply cf|apply hb|apply ga|apply ih|apply af.ret|apply af.skip|apply af.block)|refine dK C ?_|refine af.cK ?_|refine aa.nil ?_|refine cG C ?_|refine aa.skip C C C ?_|(fail_if_success refine aa.same true C ?_);(fail_if_success refine aa.same false C ?_);refine aa.iB C C (fun h=>?_) (fun h=>?_)|refine af.cond C (fun h=>?_) (fun h=>?_))
 all_goals (refine Fin.dT I C (a8.of_eq (congrArg ad.bool ?_));clear I;simp only [gE,nB];grind)
theorem QF (w:bT) (m:Nat) {j:Nat} (o:Int) (h:w.owner[j]? = some o):((List.range (j+1)).filter fun s=>m.testBit (w.owner.getD s 0).toNat).map (fun (s:Nat)=>(s:Int))=(((List.range j).filter fun s=>m.testBit (w.owner.getD s 0).toNat).map fun (s:Nat)=>(s:Int))++(if m.testBit o.toNat then [(j:Int)] else []):=by
 rw [List.range_succ,List.filter_append,List.map_append];congr 1;have:w.owner.getD j 0=o:=by rw [List.getD_eq_getElem?_getD,h];rfl
 rw [List.filter_cons,List.filter_nil,this];cases hm:m.testBit o.toNat<;>rfl
theorem I0 (w:bT) (hw:kc w) (c:Nat) (aE:c<3+w.bK.length):a7 Tryz.prog 205 [fx w,.int .i64 (c:Int)] (bI (mQ w ((hW w.bK).getD c 0))):=by
 have an:=bQ;refine a7.bp ak call205 Tryz.func205 C C fun s I=>?_
 have qd:=hw.mP;have gC:=hw.bx;have ju:=yd w.bK;obtain ⟨m,hm⟩:∃ m,(hW w.bK)[c]? = some m:=⟨_,List.getElem?_eq_getElem ai⟩;have kI:(hW w.bK).getD c 0=m:=by rw [List.getD_eq_getElem?_getD,hm];rfl
 have gQ:=vZ qd m (List.mem_of_getElem? hm);rw [kI];obtain ⟨xs,gW⟩:∃ xs:Nat→List ad,∀ j,xs j=(((List.range j).filter fun s=>m.testBit (w.owner.getD s 0).toNat).map fun (s:Nat)=>(s:Int)).map bg:=⟨_,fun _=>rfl⟩;have bB:xs 0=[]:=by rw [gW];rfl
 have jI:∀ j,(xs j).length≤j:=fun j=>by
  rw [gW,List.length_map,List.length_map];exact Nat.le_trans (List.length_filter_le _ _) bn
 unfold fx eC;have sC:=fun s o (aw:w.owner[s]? = some ((o:Nat):Int)) ag=>IQ w (yo w) c s m o ai (v7 hm) gQ aw ag
 unfold eC at sC;unfold oi hf bI at *;refine iO ?_;refine af.kz I 3 1 0 fun I=>?_
 refine af.cT [0,1,12] C I (σ:=Nat×bU) (fun q=>[(13,.int .i64 (q.1:Int)),(5,.aA 1 (xs q.1) q.2)]) (fun q=>[(q.2,.row 3 1 (xs q.1).length)]) (fun q=>q.1≤w.owner.length) (fun q=>w.owner.length-q.1) (0,.nil) (Nat.zero_le _) ⟨⟨_,rfl,aR⟩,⟨_,rfl,by rw [bB];exact a8.nil jO⟩,trivial⟩ (by rw [bB];exact au.fh _) ?_;rintro ⟨j,own⟩ aS I;simp only at aS I ⊢;refine cL ?_;refine af.cond C (fun aG=>?_) (fun bk=>?_);rotate_left;have bk:j=w.owner.length:=by
  have:w.owner.length≤j:=by simpa using bk
  omega
 ·subst bk
  have he:xs w.owner.length=(mQ w m).map bg:=by rw [gW];rfl
  rw [he];refine fJ ?_;exact Fin.dT I C a8.bd
 have aG:j<w.owner.length:=by simpa using aG
 obtain ⟨o,ag⟩:∃ o,w.owner[j]? = some o:=⟨_,List.getElem?_eq_getElem aG⟩;obtain ⟨g1,g2⟩:=hw.own o (List.mem_of_getElem? ag);obtain ⟨q,rfl⟩:∃ q:Nat,o=q:=⟨o.toNat,by omega⟩;have aw:=gW (j+1);rw [QF w m _ ag,List.map_append,← gW] at aw;have q7:=jI j;have U:=sC j q ag ai;refine cy ?_;refine af.cond C (fun av=>?_) (fun av=>?_)
 ·have aw:xs (j+1)=xs j++[.int .i64 (j:Int)]:=by rw [aw];simp [av,bg]
  have dy:(xs (j+1)).length=(xs j).length+1:=by rw [aw];simp
  refine k3 ?_;refine aa.iN ak I C C C C C C C eQ C C C C C C C C a1 k4 mK ai (fun ct I=>?_);refine h8 ?_;refine bX.mk (j+1,.own ct) I aG tZ (by show au _ [(_,.row _ _ (xs (j+1)).length)] _;rw [dy];exact au.fh _) (by show w.owner.length-(j+1)<w.owner.length-j;omega)
 ·have aw:xs (j+1)=xs j:=by rw [aw];simp [av]
  refine gi ?_;refine bX.mk (j+1,own) I aG tZ (by show au _ [(_,.row _ _ (xs (j+1)).length)] _;rw [aw];exact au.fh _) (by show w.owner.length-(j+1)<w.owner.length-j;omega)
end Go.Proofs.YtnafpeohfbglmaaGreat
namespace Go.Proofs.YtnafpeohfbglmaaGreat
open Go.bj Go.bY
abbrev gl (bh:List eW):ad := .aA 2 (bh.map hV) .bd
abbrev jU (l:List (Int×Int)):ad := .aA 2 (l.map fr) .bd
theorem QG (bh:List eW) (v:Int×Int):dM Tryz.prog (.func 206 [] [.bq [gl bh] 0]) [fr v] (.bool (gE bh.length v)):=by
 have an:=bQ;refine dM.eP (first:=[]) (cap:=[.bq [gl bh] 0]) ?_;refine a7.bp ak call206 Tryz.func206 C C fun s I=>?_
 have h:=IZ v (bh.map hV).length;rw [show gE ((bh.map hV).length:Int) v=gE bh.length v by rw [List.length_map]] at h;unfold fr at *;refine cy ?_;exact bA I
theorem QH (bh:List eW) (v:Int×Int):dM Tryz.prog (.func 169 [] [.bq [gl bh] 0]) [fr v] (.bool (gE bh.length v)):=by
 have an:=bQ;refine dM.eP (first:=[]) (cap:=[.bq [gl bh] 0]) ?_;refine a7.bp ak call169 Tryz.func169 C C fun s I=>?_
 have h:=IZ v (bh.map hV).length;rw [show gE ((bh.map hV).length:Int) v=gE bh.length v by rw [List.length_map]] at h;unfold fr at *;refine cy ?_;exact bA I
theorem QI (w:bT) (hw:kc w) (bh:List eW) (o:eW) (ag:o.bx.length<bt):dM Tryz.prog (.func 204 [] [.bq [fx w] 0,.bq [gl bh] 0]) [hV o] (.bool (ye w bh.length o)):=by
 have an:=bQ;refine dM.eP (first:=[]) (cap:=[.bq [fx w] 0,.bq [gl bh] 0]) ?_;refine a7.bp ak call204 Tryz.func204 C C fun s I=>?_
 obtain ⟨cls,bx⟩:=o;have qd:=hw.mP;have U:a7 Tryz.prog 199 [fx w,.int .i64 cls] (.bool (v8 w cls)):=IP w (yo w) cls hw.mP;have al:=IL 206 [] [.bq [gl bh] 0] (gE bh.length) bx ag (fun v _=>QG bh v);have hm:ye w bh.length ⟨cls,bx⟩=(v8 w cls&&(decide (bx.length=(mQ w ((hW w.bK).getD cls.toNat 0)).length)&&bx.all (gE bh.length))):=rfl;rw [hm];unfold hV;cases aE:v8 w cls with
 | false=>
  rw [aE] at U;unfold fx eC at *;refine cy ?_;exact bA I
 | true=>
  rw [aE] at U;unfold v8 at aE;simp only [Bool.and_eq_true,decide_eq_true_eq] at aE;obtain ⟨c,rfl⟩:∃ c:Nat,cls=c:=⟨cls.toNat,by omega⟩;have ae:=I0 w hw c ai;unfold bI at ae;unfold fx eC at *
  repeat' (first|(with_reducible first|apply af.seq|apply cf|apply af.ret)|refine dK C ?_|refine aM.nil ?_|refine aM.step C ?_|refine af.ky ak mixed C ?_|refine aM.eB C C C C C cq ?_|(fail_if_success refine aM.same true C ?_);(fail_if_success refine aM.same false C ?_);refine aM.iB C C (fun h=>?_) (fun h=>?_))
  all_goals (refine Fin.dT I C (a8.of_eq (congrArg ad.bool ?_));clear I U ae al;rw [show ((c:Nat):Int).toNat=c from Int.toNat_natCast c];simp only [List.length_map] at *;grind)
theorem QJ (w:bT) (hw:kc w) (bh:List eW) (aI:bh.length<bt) (ag:∀ o∈bh,o.bx.length<bt):a7 Tryz.prog 167 [fx w,gl bh] (.bool (yf w bh)):=by
 have an:=bQ;refine a7.bp ak call167 Tryz.func167 C C fun s I=>?_
 have U:=Qk 204 [] [.bq [fx w] 0,.bq [gl bh] 0] (ye w bh.length) bh aI (fun o h=>QI w hw bh o (ag o h));unfold gl fx eC at *
 repeat' (first|(with_reducible first|apply af.seq|apply cf|apply af.ret)|refine dK C ?_|refine af.cK ?_|refine aa.nil ?_|refine cG C ?_|refine aa.skip C C C ?_|refine aa.eB C C C C C cq ?_|(fail_if_success refine aa.same true C ?_);(fail_if_success refine aa.same false C ?_);refine aa.iB C C (fun h=>?_) (fun h=>?_))
 all_goals (refine Fin.dT I C (a8.of_eq (congrArg ad.bool ?_));clear I U;simp only [yf,List.length_map] at *;grind)
theorem QK (w:bT) (hw:kc w) (bh:List eW) (args:List (Int×Int)) (aI:bh.length<bt) (ag:∀ o∈bh,o.bx.length<bt) (aV:args.length<bt):a7 Tryz.prog 123 [fx w,gl bh,jU args] (.bool (nE w bh args)):=by
 have an:=bQ;refine a7.bp ak call123 Tryz.func123 C C fun s I=>?_
 have U:=QJ w hw bh aI ag;have ae:=IL 169 [] [.bq [gl bh] 0] (gE bh.length) args aV (fun v _=>QH bh v);unfold gl jU fx eC at *
 repeat' (first|(with_reducible first|apply af.seq|apply cf|apply af.ret)|refine dK C ?_|refine af.cK ?_|refine aa.nil ?_|refine cG C ?_|refine aa.skip C C C ?_|refine aa.eB C C C C C cq ?_|(fail_if_success refine aa.same true C ?_);(fail_if_success refine aa.same false C ?_);refine aa.iB C C (fun h=>?_) (fun h=>?_))
 all_goals (refine Fin.dT I C (a8.of_eq (congrArg ad.bool ?_));clear I U ae;simp only [nE,List.length_map] at *;grind)
theorem QL (w:bT):∀ (n:Nat) (f:ax),f.size≤n→n<bt→hy w f=true→a7 Tryz.prog 124 [f.cj] (.int .i64 (mj f)):=by
 have an:=bQ;intro n
 induction n with
 | zero=>intro x h;have:=x.size_eq;omega
 | succ n a'=>
  intro f aC kp ao;refine a7.bp ak call124 Tryz.func124 C C fun s I=>?_
  have ml:=f.size_eq;have hlen:=ax.ui f.kids;have ke:=D' f;rw [rA,Bool.and_eq_true] at ao;rw [ax.cO] at ke ⊢;rw [D1];have aV:f.du=true→IntKind.wrap .i64 (f.arg+1)=f.arg+1:=fun aI=>by
   have aC:=ao.1;simp only [iE,aI,if_true,Bool.and_eq_true,decide_eq_true_eq] at aC;exact e0 ai ai
  cases aI:f.du with
  | true=>
   rw [aI] at ke;refine cy ?_;refine af.cT [12,13] C I (σ:=Nat) (fun j=>[(14,.int .i64 (j:Int)),(3,.int .i64 (iq (if f.du then f.arg+1 else 0) (f.kids.take j)))]) (fun _=>[]) (fun j=>j≤f.kids.length) (fun j=>f.kids.length-j) 0 (Nat.zero_le _) (by repeat (first|exact trivial|refine ⟨⟨_,rfl,aR⟩,?_⟩|refine ⟨⟨_,rfl,a8.of_eq wc⟩,?_⟩)) bM ?_;rintro j aS I;refine cL ?_;refine af.cond C (fun aG=>?_) (fun bk=>?_);rotate_left
   ·have bk:j=f.kids.length:=by simp at bk;omega
    subst bk;rw [List.take_length];refine fJ ?_;exact Fin.dT I C (a8.of_eq (by rw [aI]))
   have aG:j<f.kids.length:=by simpa using aG
   obtain ⟨k,aD,eL⟩:=cD (f:=ax.cj) aG;have hm:=ax.jP (List.mem_of_getElem? aD);have aE:=a' k ai ai (lN ao.2 (List.mem_of_getElem? aD));rw [ax.cO] at eL aE
   repeat (first|(refine Ht I ?_;clear I;intro I)|refine aa.dE ak I rfl rfl rfl rfl rfl rfl rfl (fun cv I=>?_)|(refine nw ?_))
   refine bX.mk (j+1) I aG (by repeat (first|exact trivial|refine ⟨⟨_,rfl,aR⟩,?_⟩|refine ⟨⟨_,rfl,a8.of_eq wb⟩,?_⟩)) bM ux
  | false=>
   rw [aI] at ke;refine cy ?_;refine af.cT [12,13] C I (σ:=Nat) (fun j=>[(14,.int .i64 (j:Int)),(3,.int .i64 (iq (if f.du then f.arg+1 else 0) (f.kids.take j)))]) (fun _=>[]) (fun j=>j≤f.kids.length) (fun j=>f.kids.length-j) 0 (Nat.zero_le _) (by repeat (first|exact trivial|refine ⟨⟨_,rfl,aR⟩,?_⟩|refine ⟨⟨_,rfl,a8.of_eq wc⟩,?_⟩)) bM ?_;rintro j aS I;refine cL ?_;refine af.cond C (fun aG=>?_) (fun bk=>?_);rotate_left
   ·have bk:j=f.kids.length:=by simp at bk;omega
    subst bk;rw [List.take_length];refine fJ ?_;exact Fin.dT I C (a8.of_eq (by rw [aI]))
   have aG:j<f.kids.length:=by simpa using aG
   obtain ⟨k,aD,eL⟩:=cD (f:=ax.cj) aG;have hm:=ax.jP (List.mem_of_getElem? aD);have aE:=a' k ai ai (lN ao.2 (List.mem_of_getElem? aD));rw [ax.cO] at eL aE
   repeat (first|(refine Ht I ?_;clear I;intro I)|refine aa.dE ak I rfl rfl rfl rfl rfl rfl rfl (fun cv I=>?_)|(refine nw ?_))
   refine bX.mk (j+1) I aG (by repeat (first|exact trivial|refine ⟨⟨_,rfl,aR⟩,?_⟩|refine ⟨⟨_,rfl,a8.of_eq wb⟩,?_⟩)) bM ux
end Go.Proofs.YtnafpeohfbglmaaGreat
namespace Go.Proofs.YtnafpeohfbglmaaGreat
open Go.bj Go.bY
structure uA (w:bT) (bh:List eW):Prop where
 mP:bh.length≤40
 each:∀ o∈bh,(3≤o.cls∧o.cls<3+(w.bK.length:Int))∧o.bx.length=(mQ w (nF w o.cls)).length∧∀ v∈o.bx,gE bh.length v=true
theorem uA.of {w:bT} {bh:List eW} (h:yf w bh=true):uA w bh:=by
 unfold yf at h;rw [Bool.and_eq_true,decide_eq_true_eq,List.all_eq_true] at h;refine ⟨h.1,fun o ag=>?_⟩;have:=h.2 o ag;unfold ye v8 at this;simp only [Bool.and_eq_true,decide_eq_true_eq,List.all_eq_true] at this;exact ⟨⟨by omega,by omega⟩,this.2.1,this.2.2⟩
theorem Ee {n:Int} {v:Int×Int} (h:gE n v=true) (al:v.1=3):0≤v.2∧v.2<n:=by
 unfold gE at h;rw [al] at h;simp at h;omega
theorem I1 {n:Int} {v:Int×Int} (h:gE n v=true):v.1=1∨v.1=2∨v.1=3:=by
 unfold gE at h;grind
theorem I2 (w:bT) (m s:Nat) (aw:s<w.owner.length) (an:m.testBit (w.owner.getD s 0).toNat=true):∃ k,(mQ w m).findIdx? (· == (s:Int))=some k∧k<(mQ w m).length:=by
 have gA:(s:Int)∈mQ w m:=List.mem_map.2 ⟨s,List.mem_filter.2 ⟨List.mem_range.2 aw,an⟩,rfl⟩;cases h:(mQ w m).findIdx? (· == (s:Int)) with
 | none=>
  rw [List.findIdx?_eq_none_iff] at h;have:=h _ gA;simp at this
 | some k=>
  rw [List.findIdx?_eq_some_iff_getElem] at h;exact ⟨k,rfl,h.1⟩
def atR (r:Option (Int×Int)):ad := .cl [fr (r.getD (0,0)),.bool r.isSome]
theorem QM (w:bT) (hw:kc w) (bh:List eW) (ag:uA w bh) (v:Int×Int) (av:gE bh.length v=true) (path:List Int) (aN:∀ s∈path,0≤s∧s<(w.owner.length:Int)) (jn:path.length<bt) :
  a7 Tryz.prog 172 [fx w,gl bh,fr v,bI path] (atR (pe w bh v path)):=by
 have an:=bQ;have qd:=hw.mP;have ju:=yd w.bK;refine a7.bp ak call172 Tryz.func172 C C fun s I=>?_
 have dy:=fun c aE=>I0 w hw c aE
 have mo:=fun c s m o aE hm gQ aw ag=>IQ w (yo w) c s m o aE hm gQ aw ag
 unfold fr bI;unfold fx eC at *
 repeat (first|(refine AD ?_)|refine aa.iM I C C C C C C (fun b I=>?_)|refine aa.dE ak I C C C C C C C (fun cv I=>?_)|(refine AE ?_))
 refine af.cT [0,1,8,12,13] C I (σ:=Nat×(Int×Int)) (fun j=>[(14,.int .i64 (j.1:Int)),(6,.ptr b 0)]) (fun j=>[(.own b,.box 122 [.int .i64 j.2.1,.int .i64 j.2.2]),(.own cv,.box 122 [.int .i64 0,.int .i64 0])]) (fun j=>j.1≤path.length∧pe w bh v path=pe w bh j.2 (path.drop j.1)∧gE bh.length j.2=true) (fun j=>path.length-j.1) (0,v) ⟨Nat.zero_le _,rfl,av⟩ (c3 C) bM ?_;rintro ⟨j,u⟩ ⟨aS,aH,hu⟩ I;simp only at aS aH hu I ⊢;refine cL ?_;refine af.cond C (fun aG=>?_) (fun bk=>?_);rotate_left
 ·have bk:path.length≤j:=by simpa using bk
  rw [fC bk,pe] at aH;rw [aH];refine cn I ?_;intro I;exact Fin.dT I (xY C C (aP.get a1 I) C C) aR
 have aG:j<path.length:=by simpa using aG
 obtain ⟨x,ay,ey⟩:=cD (f:=bg) aG;obtain ⟨g1,g2⟩:=aN x (List.mem_of_getElem? ay);obtain ⟨bw,rfl⟩:∃ bw:Nat,x=bw:=⟨x.toNat,by omega⟩;rw [drop_cons ay,pe] at aH;unfold bg at ey;obtain ⟨nR,pO⟩:=u
 try simp only at aH
 refine cn I ?_;intro I;by_cases al:nR=3;rotate_left
 ·rw [if_pos al] at aH
  refine aa.eH 21 C (by simpa using al) ?_;refine cn I ?_;intro I;rw [aH];exact Fin.dT I (xY C C (aP.get a1 I) C C) aR
 obtain ⟨cz,dj⟩:=Ee hu al;subst al;rw [if_neg bn] at aH;simp only at cz dj;obtain ⟨q,rfl⟩:∃ q:Nat,pO=q:=⟨pO.toNat,by omega⟩;obtain ⟨o,bs,tb⟩:=cD (f:=hV) (l:=bh) (j:=q) ai;have xD:bh.getD ((q:Int)).toNat default=o:=by rw [Int.toNat_natCast,List.getD_eq_getElem?_getD,bs];rfl
 obtain ⟨⟨lQ,gv⟩,uB,uC⟩:=ag.each o (List.mem_of_getElem? bs);rw [xD] at aH;obtain ⟨cls,bx⟩:=o;simp only at lQ gv uB uC aH;obtain ⟨c,rfl⟩:∃ c:Nat,cls=c:=⟨cls.toNat,by omega⟩;obtain ⟨m,hm⟩:∃ m,(hW w.bK)[c]? = some m:=⟨_,List.getElem?_eq_getElem ai⟩;have kI:nF w (c:Int)=m:=by unfold nF;rw [Int.toNat_natCast,List.getD_eq_getElem?_getD,hm];rfl
 have gQ:=vZ qd m (List.mem_of_getElem? hm);obtain ⟨qg,ra⟩:∃ qg,w.owner[bw]? = some qg:=⟨_,List.getElem?_eq_getElem ai⟩;obtain ⟨yp,ct⟩:=hw.own qg (List.mem_of_getElem? ra);obtain ⟨o,rfl⟩:∃ o:Nat,qg=o:=⟨qg.toNat,by omega⟩;have U:=mo c bw m o ai (v7 hm) gQ ra ai;have jw:(w.owner.getD ((bw:Int)).toNat 0).toNat=o:=by rw [Int.toNat_natCast,List.getD_eq_getElem?_getD,ra];simp
 have QN:(w.owner.getD bw 0).toNat=o:=by rw [List.getD_eq_getElem?_getD,ra];simp
 rw [kI,jw] at aH;rw [kI] at uB;unfold hV at tb;refine aa.dR 21 C bn ?_;cases pn:m.testBit o with
 | false=>
  rw [pn,if_neg bn] at aH;rw [pn] at U;refine cn I ?_;intro I;rw [aH];exact Fin.dT I (xY C C (aP.get a1 I) C C) aR
 | true=>
  rw [pn,if_pos C] at aH;rw [pn] at U;have ae:=dy c ai;have QO:(hW w.bK).getD c 0=m:=by rw [List.getD_eq_getElem?_getD,hm];rfl
  rw [QO] at ae;obtain ⟨k,kV,hG⟩:=I2 w m bw ai (by rw [QN];exact pn);have hlen:(mQ w m).length<bt:=by
   have:(mQ w m).length≤w.owner.length:=by
    unfold mQ;rw [List.length_map];exact Nat.le_trans (List.length_filter_le _ _) bn
   have:=hw.bx;omega
  have bl:=HK (mQ w m) bw hlen;rw [kV] at bl;simp only at bl;obtain ⟨y,vq,QP⟩:=cD (f:=fr) (l:=bx) (j:=k) ai;have yq:bx.getD k (0,0)=y:=by rw [List.getD_eq_getElem?_getD,vq];rfl
  rw [kV,Option.getD_some,yq] at aH;unfold fr at QP;unfold bI at ae bl;refine gu I ?_;intro I;exact bX.mk (j+1,y) I ⟨aG,aH,uC y (List.mem_of_getElem? vq)⟩ c7 bM (by show path.length-(j+1)<path.length-j;omega)
end Go.Proofs.YtnafpeohfbglmaaGreat
namespace Go.Proofs.YtnafpeohfbglmaaGreat
open Go.bj Go.bY
theorem I3 {α:Type}:∀ {l:List α},l.length=2→∃ a b,l=[a,b]
 | [a,b],_=>⟨a,b,rfl⟩
structure we (w:bT) (f:ax):Prop where
 arg:0≤f.arg∧f.arg<3
 path:f.path.length≤2
 bx:∀ s∈f.path,0≤s∧s<(w.owner.length:Int)
 cls:f.op=2→0≤f.cls∧f.cls<3+(w.bK.length:Int)
theorem we.of {w:bT} {f:ax} (h:iE w f=true) (aI:f.du=true):we w f:=by
 simp only [iE,aI,if_true,Bool.and_eq_true,decide_eq_true_eq,List.all_eq_true] at h;obtain ⟨U,ae,al,bl,bD,fG,hF,oj⟩:=h;refine ⟨⟨by omega,bD⟩,fG,fun s aw=>by have:=hF s aw;simpa using this,fun ae=>?_⟩;rw [if_pos ae] at oj;simp only [Bool.and_eq_true,decide_eq_true_eq] at oj;omega
theorem A2 {w:bT} {f:ax} (h:iE w f=true):(f.op=1∧f.kids=[])∨(f.du=true∧f.kids=[]∧(f.op=2∨f.op=3∨f.op=4))∨(f.op=5∧∃ x,f.kids=[x])∨((f.op=6∨f.op=7)∧∃ x y,f.kids=[x,y]):=by
 have bB:=h;simp only [iE,Bool.and_eq_true,decide_eq_true_eq] at h;obtain ⟨U,ae,al,bl⟩:=h;have aE:f.op=1∨(f.op=2∨f.op=3∨f.op=4)∨f.op=5∨f.op=6∨f.op=7:=by omega
 rcases aE with h|h|h|h|h
 ·left
  refine ⟨h,List.eq_nil_of_length_eq_zero ?_⟩;rw [al,h];rfl
 ·right;left
  refine ⟨?_,List.eq_nil_of_length_eq_zero ?_,h⟩
  ·unfold ax.du;simp;omega
  ·rw [al];rcases h with h|h|h<;>rw [h]<;>rfl
 ·right;right;left
  refine ⟨h,List.length_eq_one_iff.1 ?_⟩;rw [al,h];rfl
 ·right;right;right
  refine ⟨.inl h,?_⟩;obtain ⟨a,b,hB⟩:=I3 (show f.kids.length=2 by rw [al,h];rfl);exact ⟨a,b,hB⟩
 ·right;right;right
  refine ⟨.inr h,?_⟩;obtain ⟨a,b,hB⟩:=I3 (show f.kids.length=2 by rw [al,h];rfl);exact ⟨a,b,hB⟩
theorem I4 {w:bT} {bh:List eW} (ag:uA w bh):∀ (path:List Int) (v u:Int×Int),(∀ s∈path,0≤s∧s<(w.owner.length:Int))→gE bh.length v=true→pe w bh v path=some u→gE bh.length u=true
  | [],v,u,_,av,h=>by rw [pe] at h;cases h;exact av
  | s::r,v,u,aN,av,h=>by
    rw [pe] at h
    try simp only at h
    split at h
    · cases h
    · rename_i al
      have al:v.1=3:=by omega
      obtain ⟨cz,dj⟩:=Ee av al;split at h
      · rename_i an
        have aw:=aN s List.mem_cons_self;obtain ⟨bw,rfl⟩:∃ bw:Nat,s=bw:=⟨s.toNat,by omega⟩;have QQ:bh[v.2.toNat]? = some (bh.getD v.2.toNat default):=by
          rw [List.getD_eq_getElem?_getD,List.getElem?_eq_getElem ai];rfl
        have nT:=ag.each _ (List.mem_of_getElem? QQ);rw [Int.toNat_natCast] at an;obtain ⟨k,kV,hG⟩:=I2 w _ bw ai an;rw [kV,Option.getD_some] at h;refine I4 ag r _ u (fun s aw=>aN s (List.mem_cons_of_mem _ aw)) ?_ h;rw [List.getD_eq_getElem?_getD,List.getElem?_eq_getElem (by rw [nT.2.1];exact hG),Option.getD_some];exact nT.2.2 _ (List.getElem_mem _)
      · cases h
theorem QR (w:bT) (hw:kc w) (bh:List eW) (ag:uA w bh) (args:List (Int×Int)) (aV:∀ v∈args,gE bh.length v=true) (sD:args.length≤3):∀ (n:Nat) (f:ax),f.size≤n→n<bt→hy w f=true→mj f≤args.length →
    a7 Tryz.prog 125 [fx w,f.cj,gl bh,jU args] (.bool (rB w bh args f)):=by
  have an:=bQ;intro n
  induction n with
  | zero=>intro x h;have:=x.size_eq;omega
  | succ n a'=>
    intro f aC kp ao gw;have qd:=hw.mP;have gC:=ag.mP;have ju:=yd w.bK;have ml:=f.size_eq;have yr:=P1 w bh args f;rw [D1] at gw;rw [rA,Bool.and_eq_true] at ao;obtain ⟨nI,la⟩:=ao;refine a7.bp ak call125 Tryz.func125 C C fun s I=>?_
    rw [ax.cO];rcases A2 nI with ⟨U,ae⟩|⟨aI,ae,U⟩|⟨U,x,ae⟩|⟨U,x,y,ae⟩
    · rw [yr,U]
      unfold ax.cells;rw [U];refine bP ?_;exact bA I
    · have hH:=we.of nI aI
      have jn:=hH.path;have cU:=fun v av=>QM w hw bh ag v av f.path hH.bx ai
      rw [aI,ae] at gw;simp only [if_true,iq] at gw;obtain ⟨q,bs⟩:∃ q:Nat,f.arg=q:=⟨f.arg.toNat,by have:=hH.arg;omega⟩;obtain ⟨v,av,nU⟩:=cD (f:=fr) (l:=args) (j:=q) ai;have A3:=aV v (List.mem_of_getElem? av);have I5:args.getD f.arg.toNat (0,0)=v:=by rw [bs,Int.toNat_natCast,List.getD_eq_getElem?_getD,av];rfl
      have cU:=cU v A3;have I6:rB w bh args f=uq w bh args f:=by
        rw [yr,if_neg ai,if_neg ai,if_neg ai,if_neg ai]
      rw [I6];have cr:(f.op==1)=false:=by simp;omega
      have cJ:(f.op==5)=false:=by simp;omega
      have dW:(f.op==6)=false:=by simp;omega
      have n0:(f.op==7)=false:=by simp;omega
      have mo:=fun m o hm aE=>wa m o hm aE
      unfold ax.cells;rw [bs];unfold fr at nU;unfold fr bI at cU;unfold bg at cU;unfold fx eC at *;cases hu:pe w bh v f.path with
      | none=>
        have hle:uq w bh args f=false:=by unfold uq;rw [I5,hu]
        rw [hu] at cU;rw [hle];unfold atR fr at cU;simp only [Option.getD_some,Option.isSome_some,Option.getD_none,Option.isSome_none] at cU;refine iO ?_;refine af.cond C (fun h=>by rw [cr] at h;cases h) (fun _=>?_);refine cL ?_;refine af.cond C (fun h=>by rw [cJ] at h;cases h) (fun _=>?_);refine cL ?_;refine af.cond C (fun h=>by rw [dW] at h;cases h) (fun _=>?_);refine cL ?_;refine af.cond C (fun h=>by rw [n0] at h;cases h) (fun _=>?_)
        repeat (first|(refine OL ?_)|refine aM.DP ak I C C C C C C C C (fun cv I=>?_)|(refine Hu I ?_;clear I;intro I))
        exact bA I
      | some u=>
        have k5:=I4 ag f.path v u hH.bx A3 hu;obtain ⟨nR,pO⟩:=u
        have hle:uq w bh args f=(if f.op=2 then (if nR=3 then (nF w (bh.getD pO.toNat default).cls).testBit f.cls.toNat else (nF w nR).testBit f.cls.toNat)
    else decide (nR=1)&&((decide (pO=f.n)==decide (f.op=4))&&decide (pO≤f.n))):=by unfold uq;rw [I5,hu]
        rw [hu] at cU;rw [hle];unfold atR fr at cU;simp only [Option.getD_some,Option.isSome_some,Option.getD_none,Option.isSome_none] at cU;refine iO ?_;refine af.cond C (fun h=>by rw [cr] at h;cases h) (fun _=>?_);refine cL ?_;refine af.cond C (fun h=>by rw [cJ] at h;cases h) (fun _=>?_);refine cL ?_;refine af.cond C (fun h=>by rw [dW] at h;cases h) (fun _=>?_);refine cL ?_;refine af.cond C (fun h=>by rw [n0] at h;cases h) (fun _=>?_)
        repeat (first|(refine OM ?_)|refine aM.DP ak I C C C C C C C C (fun cv I=>?_)|(refine Hu I ?_;clear I;intro I))
        refine af.cond C (fun h=>?_) (fun h=>?_)
        · have bD:f.op≠2:=by simpa using h
          rw [if_neg bD]
          repeat' (first|(with_reducible first|apply af.seq|apply cf|apply hb|apply ih|apply af.ret)|refine af.cK ?_|refine aa.nil ?_|refine cG C ?_|refine aa.skip C C C ?_|refine aa.dS ak I C C C C C C n7 b3 ?_|(fail_if_success refine aa.same true C ?_);(fail_if_success refine aa.same false C ?_);refine aa.iB C C (fun h=>?_) (fun h=>?_))
          all_goals (refine Fin.dT I C (a8.of_eq (congrArg ad.bool ?_));clear I cU a' mo hle I6 yr hu k5;grind)
        have bD:f.op=2:=by simpa using h
        rw [if_pos bD];obtain ⟨cz,dj⟩:=hH.cls bD;obtain ⟨ea,cE⟩:∃ ea:Nat,f.cls=ea:=⟨f.cls.toNat,by omega⟩;rw [cE,Int.toNat_natCast];by_cases al:nR=3
        · subst al
          obtain ⟨lQ,gv⟩:=Ee k5 rfl;simp only at lQ gv;obtain ⟨p,rfl⟩:∃ p:Nat,pO=p:=⟨pO.toNat,by omega⟩;obtain ⟨o,aN,eZ⟩:=cD (f:=hV) (l:=bh) (j:=p) ai;obtain ⟨⟨yp,ct⟩,-,-⟩:=ag.each o (List.mem_of_getElem? aN);have xD:bh.getD ((p:Int)).toNat default=o:=by rw [Int.toNat_natCast,List.getD_eq_getElem?_getD,aN];rfl
          obtain ⟨c,uD⟩:∃ c:Nat,o.cls=c:=⟨o.cls.toNat,by omega⟩;obtain ⟨m,hm⟩:∃ m,(hW w.bK)[c]? = some m:=⟨_,List.getElem?_eq_getElem ai⟩;have kI:nF w (c:Int)=m:=by unfold nF;rw [Int.toNat_natCast,List.getD_eq_getElem?_getD,hm];rfl
          have gQ:=vZ qd m (List.mem_of_getElem? hm);have qS:=mo m ea gQ ai;rw [if_pos C,xD,uD,kI];unfold hV at eZ;rw [uD] at eZ;have js:=ym (w:=w) (v7 hm);refine rj I ?_;intro I;refine aM.kB ak c C C C C C C C C C C ai ?_;refine aM.x9 ak C C C C C C C (by simpa using js) ?_;refine cH ?_;exact bA I
        · obtain ⟨c,uD⟩:∃ c:Nat,nR=c:=⟨nR.toNat,by have:=I1 k5;simp only at this;omega⟩
          subst uD;have W7:c<3:=by have:=I1 k5;simp only at this;omega
          obtain ⟨m,hm⟩:∃ m,(hW w.bK)[c]? = some m:=⟨_,List.getElem?_eq_getElem ai⟩;have kI:nF w (c:Int)=m:=by unfold nF;rw [Int.toNat_natCast,List.getD_eq_getElem?_getD,hm];rfl
          have gQ:=vZ qd m (List.mem_of_getElem? hm);have qS:=mo m ea gQ ai;have js:=ym (w:=w) (v7 hm);rw [if_neg al,kI];have mq:((c:Int)==3)=false:=by simpa using al
          refine cn I ?_;intro I;refine af.cond C (fun h=>by rw [mq] at h;cases h) (fun _=>?_);refine rj I ?_;intro I;refine aM.kB ak c C C C C C C C C C C ai ?_;refine aM.x9 ak C C C C C C C (by simpa using js) ?_;refine cH ?_;exact bA I
    · have ab:=ax.jP (l:=f.kids) (x:=x) lP
      have fI:=(AV f.kids (if f.du then f.arg+1 else 0)).2 x lP;have i1:=a' x ai ai (lN la lP) ai;rw [yr,U,ae,AW _ _ _ 0 [x] x C];have b8:([x].map ax.cj)[0]? = some (.agg x.cells):=by rw [← ax.cO];rfl
      rw [ax.cO] at i1;unfold ax.cells;rw [U,ae];unfold fx eC at *;refine cy ?_;exact bA I
    · have ab:=ax.jP (l:=f.kids) (x:=x) lP
      have fI:=(AV f.kids (if f.du then f.arg+1 else 0)).2 x lP;have i1:=a' x ai ai (lN la lP) ai;have ay:=ax.jP (l:=f.kids) (x:=y) sA;have cY:=(AV f.kids (if f.du then f.arg+1 else 0)).2 y sA;have i2:=a' y ai ai (lN la sA) ai;have b8:([x,y].map ax.cj)[0]? = some (.agg x.cells):=by rw [← ax.cO];rfl
      have bZ:([x,y].map ax.cj)[1]? = some (.agg y.cells):=by rw [← ax.cO];rfl
      rw [ax.cO] at i1 i2;unfold fx eC at *;rcases U with U|U
      all_goals
        rw [yr,U,ae,AW _ _ _ 0 [x,y] x C,AW _ _ _ 1 [x,y] y C];unfold ax.cells;rw [U,ae];refine cy ?_;cases yu:rB w bh args x with
        | true=>
          rw [yu] at i1;refine cH ?_;exact bA I
        | false=>
          rw [yu] at i1;refine cH ?_;exact bA I
end Go.Proofs.YtnafpeohfbglmaaGreat
namespace Go.Proofs.YtnafpeohfbglmaaGreat
open Go.bj Go.bY
def mr (w:bT) (f:ax) (bh:List eW) (args:List (Int×Int)):Bool×Int:=
 if iQ w f&&(nE w bh args&&decide (mj f≤args.length)) then (rB w bh args f,0) else (false,2)
theorem QS {w:bT} {bh:List eW} {args:List (Int×Int)} (h:nE w bh args=true):uA w bh∧args.length≤3∧∀ v∈args,gE bh.length v=true:=by
 unfold nE at h;simp only [Bool.and_eq_true,decide_eq_true_eq,List.all_eq_true] at h;exact ⟨uA.of h.1,h.2.2.1,h.2.2.2⟩
theorem Ef (w:bT) (hw:kc w) (f:ax) (ba:f.size<bt) (bh:List eW) (args:List (Int×Int)) (aI:bh.length<bt) (ag:∀ o∈bh,o.bx.length<bt) (aV:args.length<bt):a7 Tryz.prog 74 [iR w,f.cj,gl bh,jU args] (.cl [.bool (mr w f bh args).1,.int .i64 (mr w f bh args).2]):=by
 have an:=bQ;refine a7.bp ak call74 Tryz.func74 C C fun s I=>?_
 have U:=Ed w hw [f] dq (by intro g ao;rw [List.mem_singleton] at ao;subst ao;exact ba);have ae:=QK w hw bh args aI ag aV;rw [List.map_cons,List.map_nil,List.all_cons,List.all_nil,Bool.and_true] at U;have dV:mr w f bh args=if iQ w f&&(nE w bh args&&decide (mj f≤args.length)) then (rB w bh args f,0) else (false,2):=rfl
 cases al:iQ w f with
 | false=>
  rw [al,Bool.false_and,if_neg bn] at dV;rw [dV];rw [al,ax.cO] at U;rw [ax.cO];unfold iR hf gb bI at *;unfold fx eC at *;refine cy ?_;exact bA I
 | true=>
  have ao:=uo f w 12 24 al;have bl:=QL w f.size f (Nat.le_refl _) ba ao;rw [al,Bool.true_and] at dV;rw [al] at U;cases bD:nE w bh args with
  | false=>
   rw [bD,Bool.false_and,if_neg bn] at dV;rw [dV];rw [bD] at ae;rw [ax.cO] at U ⊢;unfold iR hf gb bI at *;unfold fx eC at *;refine cy ?_;exact bA I
  | true=>
   obtain ⟨g1,g2,g3⟩:=QS bD;rw [bD,Bool.true_and] at dV;rw [bD] at ae;by_cases fG:mj f≤args.length
   ·have hF:=QR w hw bh g1 args g3 g2 f.size f (Nat.le_refl _) ba ao fG
    rw [if_pos (by simpa using fG)] at dV;rw [dV];rw [ax.cO] at U bl hF ⊢;unfold iR hf gb bI at *;unfold fx eC at *;refine cy ?_;refine af.cond C (fun h=>?_) (fun _=>?_)
    ·exfalso
     simp at h;omega
    refine cH ?_;exact bA I
   ·rw [if_neg (by simpa using fG)] at dV
    rw [dV];rw [ax.cO] at U bl ⊢;unfold iR hf gb bI at *;unfold fx eC at *;refine cy ?_;refine af.cond C (fun h=>?_) (fun h=>?_)
    ·refine j' ?_
     exact bA I
    ·exfalso
     simp at h;omega
end Go.Proofs.YtnafpeohfbglmaaGreat
namespace Go.Proofs.YtnafpeohfbglmaaGreat
open Go.bj Go.bY
theorem I7:∀ (a b:List ax),kd ax.same a b=ax.nA a b
 | [],[]=>by rw [kd,ax.nA]
 | [],_::_=>by rw [kd,ax.nA]<;>simp
 | _::_,[]=>by rw [kd,ax.nA]<;>simp
 | x::r,y::t=>by rw [kd,ax.nA,I7 r t]
theorem QT (f g:ax):ax.same f g=(decide (f.op=g.op)&&(decide (f.arg=g.arg)&&(decide (f.cls=g.cls)&&(decide (f.n=g.n)&&(f.path==g.path&&ax.nA f.kids g.kids))))):=by
 cases f;cases g;rw [ax.same];rfl
theorem QU:∀ (n:Nat) (f g:ax),f.size≤n→n<bt→g.size<bt→a7 Tryz.prog 268 [f.cj,g.cj] (.bool (ax.same f g)):=by
  have an:=bQ;intro n
  induction n with
  | zero=>intro x _ h;have:=x.size_eq;omega
  | succ n a'=>
    intro f g aC kp ao;have U:=f.size_eq;have ae:=g.size_eq;have l6:=ax.ui f.kids;have ev:=ax.ui g.kids;have al:=sr f.path g.path ai ai
    have bl:=D8 (.func 268 [] []) ax.same f.kids g.kids ai ai (fun x ab y ay=>dM.eP (first:=[]) (cap:=[]) (by
      have:=ax.jP ab
      have:=ax.jP ay
      exact a' x y ai ai ai))
    rw [I7] at bl;refine a7.bp ak call268 Tryz.func268 C C fun s I=>?_
    rw [ax.cO,ax.cO,QT];unfold bI bg at al
    repeat' (first|(with_reducible first|apply af.seq|apply cf|apply af.ret)|refine dK C ?_|refine af.cK ?_|refine aa.nil ?_|refine cG C ?_|refine aa.skip C C C ?_|refine aa.eB C C C C C cq ?_|(fail_if_success refine aa.same true C ?_);(fail_if_success refine aa.same false C ?_);refine aa.iB C C (fun h=>?_) (fun h=>?_))
    all_goals (refine Fin.dT I C (a8.of_eq (congrArg ad.bool ?_));clear I al bl a';grind)
theorem QV (x y:ez) (ab:x.1.size<bt) (ay:y.1.size<bt):dM Tryz.prog (.func 267 [] [.bq (oh x) 0]) [hj y] (.bool (uw x y)):=by
 have an:=bQ;refine dM.eP (first:=[]) (cap:=[.bq (oh x) 0]) ?_;refine a7.bp ak call267 Tryz.func267 C C fun s I=>?_
 obtain ⟨f,b⟩:=x;obtain ⟨g,c⟩:=y;have U:=QU f.size f g (Nat.le_refl _) ab ay;rw [ax.cO,ax.cO] at U;unfold hj oh uw;simp only
 repeat' (first|(with_reducible first|apply af.seq|apply cf|apply af.ret)|refine dK C ?_|refine af.cK ?_|refine aa.nil ?_|refine cG C ?_|refine aa.skip C C C ?_|refine aa.eB C C C C C cq ?_|(fail_if_success refine aa.same true C ?_);(fail_if_success refine aa.same false C ?_);refine aa.iB C C (fun h=>?_) (fun h=>?_))
 all_goals (refine Fin.dT I C (a8.of_eq (congrArg ad.bool ?_));clear I U;grind)
theorem QW (l:List ez):∀ y∈l.map hj,jv 7 y=true:=Qe l
theorem QX (l:List ez) (own:bU) (aI:l.length<bt):bu Tryz.prog 265 [.aA 7 (l.map hj) own] [] (fun o K=>∃ cZ,o = .ret (.aA 7 (l.map hj) cZ)∧K=[(cZ,.row 289 7 l.length)]):=by
 have an:=bQ;refine bu.bp ak call265 Tryz.func265 C C fun s I=>?_
 refine dF ?_;refine aa.op C C C (aU.AS ak C C C C (X:=fun _ _=>False)) ?_ (fun _ _ h=>False.elim h);rintro r ah ⟨rfl,⟨rfl,aC⟩|rfl⟩
 ·have pS:l.length=0:=by simpa using congrArg List.length aC
  refine aa.kz I 289 7 0 fun I=>?_
  refine cC ?_;rw [aC,pS];exact Fin.bH I C (a8.nil jO) (au.all _) ⟨.nil,rfl,rfl⟩
 ·refine bP ?_
  refine aa.AN I 289 7 0 fun I=>?_
  refine aa.o6 ak I C C C C C C C eQ C C C C (.inr C) C (QW l) C .here C (n':=l.length) bn (by simp only [List.length_nil,Nat.zero_add,List.length_map];show _*88≤_;omega) AG (fun mu I=>?_);refine dO ?_;exact Fin.bH I C aR (au.all _) ⟨mu,rfl,rfl⟩
theorem QY (fv:ad) (xs:List ez) (T:Nat→a6) (cc:Nat→Bool) (aI:xs.length<bt) (h:∀ j x,xs[j]? = some x→(∀ i,i<j→cc i=false)→c2 Tryz.prog fv [hj x] (T j) (fun o K=>o = .ret (.bool (cc j))∧K=T (j+1))) :
  bu Tryz.prog 279 [.aA 7 (xs.map hj) .bd,fv] (T 0)
   (fun o K=>(o = .ret (.int .i64 (-1))∧K=T xs.length∧∀ i,i<xs.length→cc i=false)∨∃ j,j<xs.length∧cc j=true∧(∀ i,i<j→cc i=false)∧o = .ret (.int .i64 (j:Int))∧K=T (j+1)):=by
 have an:=bQ;refine bu.bp ak call279 Tryz.func279 C C fun s I=>?_
 refine iO ?_;refine af.vK I (σ:=Nat) (fun j=>[(0,.aA 7 (xs.map hj) .bd),(1,fv),(7,.int .i64 xs.length),(8,.int .i64 (j:Int))]) T (fun j=>j≤xs.length∧∀ i,i<j→cc i=false) (fun j=>xs.length-j) 0 ⟨by omega,fun i aY=>by omega⟩ xS (au.all _) ?_;rintro j ⟨aS,aH⟩ I;refine cL ?_;refine af.cond C (fun aG=>?_) (fun bk=>?_)
 ·have aG:j<xs.length:=by simpa using aG
  obtain ⟨x,ab,ch⟩:=cD (f:=hj) aG;have av:=h j x ab aH
  try rw [hj] at ch av
  refine bP ?_;refine aa.fO rfl rfl rfl rfl rfl rfl av I (au.all _) ?_ (fun _ _ ⟨h,_⟩ _=>by cases h);rintro _ _ ⟨⟨⟩,rfl⟩ I;rw [List.append_nil] at I ⊢;cases mO:cc j with
  | true=>
   refine cC ?_;exact Fin.bH I C aR (au.all _) (.inr ⟨j,aG,mO,aH,rfl,rfl⟩)
  | false=>
   refine bP ?_
   exact bX.mk (j+1) I ⟨aG,fun i aY=>by
    rcases Nat.lt_succ_iff_lt_or_eq.1 aY with aY|rfl
    ·exact aH i aY
    ·exact mO⟩ c7 (au.all _) p2
 ·have bk:j=xs.length:=by
   have:xs.length≤j:=by simpa using bk
   omega
  subst bk;refine fJ ?_;exact Fin.bH I C aR (au.all _) (.inl ⟨rfl,rfl,aH⟩)
theorem QZ (fv:ad) (xs:List ez) (T:Nat→a6) (cc:Nat→Bool) (aI:xs.length<bt) (h:∀ j x,xs[j]? = some x→(∀ i,i<j→cc i=false)→c2 Tryz.prog fv [hj x] (T j) (fun o K=>o = .ret (.bool (cc j))∧K=T (j+1))) :
  bu Tryz.prog 266 [.aA 7 (xs.map hj) .bd,fv] (T 0)
   (fun o K=>(o = .ret (.bool false)∧K=T xs.length∧∀ i,i<xs.length→cc i=false)∨∃ j,j<xs.length∧cc j=true∧(∀ i,i<j→cc i=false)∧o = .ret (.bool true)∧K=T (j+1)):=by
 refine bu.bp ak call266 Tryz.func266 C C fun s I=>?_
 refine dF ?_;refine aa.b0 rfl rfl rfl rfl rfl (QY fv xs T cc aI h) I (au.all _) ?_ (fun _ _ h _=>by rcases h with ⟨h,_⟩|⟨_,_,_,_,h,_⟩<;>cases h);rintro _ _ (⟨⟨⟩,rfl,U⟩|⟨j,U,ae,al,⟨⟩,rfl⟩) I
 all_goals rw [List.append_nil] at I ⊢
 ·refine dO ?_
  exact Fin.bH I C aR (au.all _) (.inl ⟨rfl,rfl,U⟩)
 ·refine dO ?_
  exact Fin.bH I C (by simp;exact aR) (au.all _) (.inr ⟨j,U,ae,al,rfl,rfl⟩)
theorem Q0 (fv:ad) (q:ez→Bool) (xs:List ez) (aI:xs.length<bt) (h:∀ x∈xs,dM Tryz.prog fv [hj x] (.bool (q x))) :
  a7 Tryz.prog 266 [.aA 7 (xs.map hj) .bd,fv] (.bool (xs.any q)):=
 x7 (fun T cc dN=>QZ fv xs T cc aI dN) h
theorem Q1 (a b:List ez) (aI:a.length+b.length<bt) (aV:∀ x∈a,x.1.size<bt) (lb:∀ x∈b,x.1.size<bt):a7 Tryz.prog 246 [.aA 7 (a.map hj) .bd,.aA 7 (b.map hj) .bd] (.aA 7 ((iF a b).map hj) .bd):=by
 have an:=bQ;refine a7.bp ak call246 Tryz.func246 C C fun s I=>?_
 have U:=QX a .bd ai;have hlen:∀ j,(iF a (b.take j)).length≤a.length+j:=fun j=>by
  have:=D4 (b.take j) a;have:=List.length_take_le j b;omega
 have gA:∀ j,∀ x∈iF a (b.take j),x.1.size<bt:=fun j x ab=>by
  rcases AZ _ _ ab with h|h
  ·exact aV x h
  ·exact lb x (List.mem_of_mem_take h)
 refine dF ?_;refine aa.b0 rfl rfl rfl rfl rfl U I (au.all _) ?_ (fun _ _ ⟨_,h,_⟩ _=>by cases h);rintro _ _ ⟨Q2,⟨⟩,rfl⟩ I;rw [List.append_nil] at I ⊢;refine bP ?_;refine af.cT [10,11] C I (σ:=Nat×bU) (fun q=>[(12,.int .i64 (q.1:Int)),(5,.aA 7 ((iF a (b.take q.1)).map hj) q.2)]) (fun q=>[(q.2,.row 289 7 (iF a (b.take q.1)).length)]) (fun q=>q.1≤b.length) (fun q=>b.length-q.1) (0,Q2) (Nat.zero_le _) (c3 C) bM ?_;rintro ⟨j,own⟩ aS I;simp only at aS I ⊢;refine cL ?_;refine af.cond C (fun aG=>?_) (fun bk=>?_);rotate_left
 ·have bk:j=b.length:=by simp at bk;omega
  subst bk;rw [List.take_length];refine fJ ?_;exact Fin.dT I C a8.bd
 have aG:j<b.length:=by simpa using aG
 obtain ⟨x,ab,ch⟩:=cD (f:=hj) aG;have aw:iF a (b.take (j+1))=pg (iF a (b.take j)) x:=by
  unfold iF;rw [mi ab,List.foldl_append];rfl
 unfold pg at aw;have gW:=lb x (List.mem_of_getElem? ab);have l6:=hlen j;have mF:=gA j;generalize dc:iF a (b.take j)=out at I aw l6 mF ⊢;have aE:=Q0 (.func 267 [] [.bq (oh x) 0]) (uw x) out ai (fun y ay=>QV x y gW (mF y ay));cases av:out.any (uw x) with
 | true=>
  rw [av] at aE;rw [av,if_pos C] at aw;refine gP ?_;exact bX.mk (j+1,own) I aG tZ (by show au _ [(_,.row _ _ (iF a (b.take (j+1))).length)] _;rw [aw];exact au.fh _) (by show b.length-(j+1)<b.length-j;omega)
 | false=>
  rw [av] at aE;rw [av,if_neg bn] at aw;refine gP ?_;refine aa.iN ak I C C C C C C C eQ C C C C C C C C a1 k4 (by show (_+1)*88≤_;omega) ai (fun ct I=>?_);refine h8 ?_;exact bX.mk (j+1,.own ct) I aG (by repeat (first|exact trivial|refine ⟨⟨_,rfl,aR⟩,?_⟩|refine ⟨⟨_,rfl,a8.of_eq (by (first|rw [nt ai]|(rw [aw,List.map_append];rfl)))⟩,?_⟩)) (by show au _ [(_,.row _ _ (iF a (b.take (j+1))).length)] _;rw [aw,List.length_append,List.length_singleton];exact au.fh _) (by show b.length-(j+1)<b.length-j;omega)
end Go.Proofs.YtnafpeohfbglmaaGreat
namespace Go.bj
theorem c2.args {P:Program} {fv:ad} {xs ys:List ad} {K:a6} {X3:eb→a6→Prop} (h:cA xs ys) (k:c2 P fv ys K X3):c2 P fv xs K X3:=
 fun s I w p v vs b6 av az=>k s I w p v vs b6 av (h.rel az)
end Go.bj
namespace Go.Proofs.YtnafpeohfbglmaaGreat
open Go.bj Go.bY
def Q3 (dv:Nat):ad := .func 243 [] [.ptr dv 0]
abbrev oo (l:List ez):ad := .aA 7 (l.map hj) .bd
def qh (dv:Nat):db := .box 287 [Q3 dv]
def yv {α:Type} (Go:List α→a6→Prop) (e6:a6→Prop) (fb:ad→a6→Prop) (rem:List α) (o:eb) (aL:a6):Prop:=
 (o = .ret (.bool true)∧Go rem aL)∨(o = .ret (.bool false)∧e6 aL)∨∃ v,o = .panic v∧fb v aL
structure yw (dv:Nat) (fv:ad) (Go:List (List ez)→a6→Prop) (e6:a6→Prop) (fb:ad→a6→Prop):Prop where
 one:cellsOf fv=some [fv]
 call:∀ x rem K,Go (x::rem) K→c2 Tryz.prog fv [oo x] K (yv Go e6 fb rem)
 po:∀ xs K,Go xs K→∃ R,aP K (.own dv) (qh dv) R
 uE:∀ K,e6 K→∃ R,aP K (.own dv) (qh dv) R
theorem Q4 {dv:Nat} {fv:ad} {Go:List (List ez)→a6→Prop} {e6:a6→Prop} {fb:ad→a6→Prop} (dN:yw dv fv Go e6 fb) (a z:List ez) (aI:a.length+z.length<bt) (aV:∀ x∈a,x.1.size<bt) (bE:∀ x∈z,x.1.size<bt) (rem:List (List ez)) (K:a6) (df:Go (iF a z::rem) K) :
  c2 Tryz.prog (.func 245 [] [.bq [fv] 0,.bq [oo a] 0]) [oo z] K (yv Go e6 fb rem):=by
 refine c2.eP (first:=[]) (cap:=[.bq [fv] 0,.bq [oo a] 0]) ?_;refine bu.bp ak call245 Tryz.func245 C C fun s I=>?_
 have U:=Q1 a z aI aV bE;have ae:=dN.call _ _ _ df;refine Dk ?_;refine aM.PO C C C C C C C ae I (au.all _) ?_ ?_
 ·rintro x aL (⟨⟨⟩,ao⟩|⟨⟨⟩,ar⟩|⟨_,⟨⟩,_⟩) I
  all_goals rw [List.append_nil] at I ⊢
  ·refine cH ?_
   exact Fin.bH I C aR (au.all _) (.inl ⟨rfl,ao⟩)
  ·refine cH ?_
   exact Fin.bH I C aR (au.all _) (.inr (.inl ⟨rfl,ar⟩))
 ·rintro x aL (⟨h,_⟩|⟨h,_⟩|⟨v,⟨⟩,aN⟩) I
  ·cases h
  ·cases h
  rw [List.append_nil] at I ⊢;exact Fin.eM I aR (au.all _) (.inr (.inr ⟨_,rfl,aN⟩))
theorem Q5 (w:bT) (dv:Nat):∀ (n:Nat) (f:ax),f.size≤n→n<bt→hy w f=true→∀ (b:Bool) (fv:ad) (Go:List (List ez)→a6→Prop) (e6:a6→Prop) (fb:ad→a6→Prop),yw dv fv Go e6 fb →
  ∀ (rest:List (List ez)) (K:a6),Go (hh b f++rest) K→bu Tryz.prog 243 [f.cj,.bool b,fv,.ptr dv 0] K (yv Go e6 fb rest):=by
 have an:=bQ;intro n
 induction n with
 | zero=>intro x h;have:=x.size_eq;omega
 | succ n a'=>
  intro f aC kp ao b fv Go e6 fb dN rest K df;obtain ⟨R,aw⟩:=dN.po _ _ df;have sB:=dN.one;have ml:=f.size_eq;have ir:=IC b f;rw [rA,Bool.and_eq_true] at ao;obtain ⟨nI,la⟩:=ao;have ke:=D' f;rw [ax.cO] at ke;refine bu.bp ak call243 Tryz.func243 C C fun s I=>?_
  rw [ax.cO];rcases A2 nI with ⟨U,ae⟩|⟨aI,ae,U⟩|⟨U,x,ae⟩|⟨U,x,y,ae⟩
  ·rw [ir,U,if_pos C] at df
   unfold ax.cells;rw [U];cases b with
   | true=>
    refine k3 ?_;refine aa.iM I C C C C C sB (fun pq I=>?_);refine aa.lG I 6 pq C .here (fun I=>?_);refine bP ?_;exact Fin.bH I C aR (au.all _) (.inl ⟨rfl,df⟩)
   | false=>
    have al:=c2.args (show cA [.aA 0 [] .nil] [oo []] from .one a8.empty) (dN.call _ _ _ df);refine k3 ?_;refine aa.iM I C C C C C sB (fun pq I=>?_);refine aa.lG I 6 pq C .here (fun I=>?_);refine bP ?_;refine aa.fO C C C C C C al I (au.all _) ?_ ?_
    ·rintro x aL (⟨⟨⟩,ao⟩|⟨⟨⟩,ar⟩|⟨_,⟨⟩,_⟩) I
     all_goals rw [List.append_nil] at I ⊢
     ·refine cC ?_
      exact Fin.bH I C aR (au.all _) (.inl ⟨rfl,ao⟩)
     ·refine cC ?_
      exact Fin.bH I C aR (au.all _) (.inr (.inl ⟨rfl,ar⟩))
    ·rintro x aL (⟨h,_⟩|⟨h,_⟩|⟨v,⟨⟩,aN⟩) I
     ·cases h
     ·cases h
     rw [List.append_nil] at I ⊢;exact Fin.eM I aR (au.all _) (.inr (.inr ⟨_,rfl,aN⟩))
  ·rw [ir,if_neg ai,if_neg ai,if_pos aI] at df
   rw [aI] at ke;have cr:(f.op==1)=false:=by simp;omega
   have cJ:(f.op==5)=false:=by simp;omega
   have al:=c2.args (show cA [.aA 7 [hj (f,b)] .clip] [oo [(f,b)]] from .one a8.bd) (dN.call _ _ _ df);unfold hj oh ax.cells at al;unfold ax.cells;refine k3 ?_;refine aa.iM I C C C C C sB (fun pq I=>?_);refine aa.lG I 6 pq C .here (fun I=>?_);refine bP ?_;refine af.cond C (fun h=>by rw [cr] at h;cases h) (fun _=>?_);refine cL ?_;refine af.cond C (fun h=>by rw [cJ] at h;cases h) (fun _=>?_);refine cH ?_;refine aa.fO C C C C C C al I (au.all _) ?_ ?_
   ·rintro x aL (⟨⟨⟩,ao⟩|⟨⟨⟩,ar⟩|⟨_,⟨⟩,_⟩) I
    all_goals rw [List.append_nil] at I ⊢
    ·refine cC ?_
     exact Fin.bH I C aR (au.all _) (.inl ⟨rfl,ao⟩)
    ·refine cC ?_
     exact Fin.bH I C aR (au.all _) (.inr (.inl ⟨rfl,ar⟩))
   ·rintro x aL (⟨h,_⟩|⟨h,_⟩|⟨v,⟨⟩,aN⟩) I
    ·cases h
    ·cases h
    rw [List.append_nil] at I ⊢;exact Fin.eM I aR (au.all _) (.inr (.inr ⟨_,rfl,aN⟩))
  ·have ab:=ax.jP (l:=f.kids) (x:=x) lP
   have i1:=a' x ai ai (lN la lP) (!b) fv Go e6 fb dN rest K;have b8:([x].map ax.cj)[0]? = some (.agg x.cells):=by rw [← ax.cO];rfl
   rw [ir,U,if_neg ai,if_pos C,ae,rF _ 0 [x] x C] at df;have i1:=c2.eP (first:=[]) (args:=[x.cj,.bool (!b),fv]) (cap:=[.ptr dv 0]) (i1 df);rw [ax.cO] at i1;unfold qh at aw;unfold ax.cells;rw [U,ae];refine k3 ?_;refine aa.iM I C C C C C sB (fun pq I=>?_);refine aa.lG I 6 pq C .here (fun I=>?_);refine aa.run ak C (aa.nil ?_)
   repeat (first
    | refine af.p8 I dv aw ak mixed C ?_
    | with_reducible apply af.seq
    | with_reducible apply cf
    | with_reducible apply ga
    | with_reducible apply af.block
    | refine af.gV C ?_
    | refine af.hR C ?_
    | refine dK C ?_
    | refine af.skip ?_)
   refine cH ?_;refine aM.x' C C C C C C C i1 I (au.all _) (fun x aL h=>?_) ?_ ?_
   ·rw [List.append_nil]
    rcases h with ⟨_,h⟩|⟨_,h⟩|⟨_,h,_⟩
    ·exact dN.po _ _ h
    ·exact dN.uE _ h
    ·cases h
   ·rintro x aL (⟨⟨⟩,ao⟩|⟨⟨⟩,ar⟩|⟨_,⟨⟩,_⟩) I
    all_goals rw [List.append_nil] at I ⊢
    ·refine cH ?_
     exact Fin.bH I C aR (au.all _) (.inl ⟨rfl,ao⟩)
    ·refine cH ?_
     exact Fin.bH I C aR (au.all _) (.inr (.inl ⟨rfl,ar⟩))
   ·rintro x aL (⟨h,_⟩|⟨h,_⟩|⟨v,⟨⟩,aN⟩) I
    ·cases h
    ·cases h
    rw [List.append_nil] at I ⊢;exact Fin.eM I aR (au.all _) (.inr (.inr ⟨_,rfl,aN⟩))
  ·have ab:=ax.jP (l:=f.kids) (x:=x) lP
   have ay:=ax.jP (l:=f.kids) (x:=y) sA;have i1:=a' x ai ai (lN la lP) b;have i2:=a' y ai ai (lN la sA) b;have b8:([x,y].map ax.cj)[0]? = some (.agg x.cells):=by rw [← ax.cO];rfl
   have bZ:([x,y].map ax.cj)[1]? = some (.agg y.cells):=by rw [← ax.cO];rfl
   have nV:f.du=false:=by unfold ax.du;simp;omega
   have Eg:=sy f.kids b;have sE:=IE f.kids b;rw [nV] at ke;have W8:=df;rw [ir,if_neg ai,if_neg ai,if_neg (by rw [nV];simp),ae,rF _ 0 [x,y] x C,rF _ 1 [x,y] y C] at df;rw [ae] at Eg sE;have I8:=Eg 0;have I9:=Eg 1;rw [rF _ 0 [x,y] x C] at I8;rw [rF _ 1 [x,y] y C] at I9;rw [rF _ 0 [x,y] x C,rF _ 1 [x,y] y C] at sE;have b7:ax.jy [x,y]<bt:=by rw [← ae];omega
   unfold qh at aw;unfold ax.cells at ke ⊢;by_cases Eh:b=decide (f.op=6)
   ·rw [if_pos Eh,List.append_assoc] at df
    have uF:=c2.eP (first:=[]) (args:=[x.cj,.bool b,fv]) (cap:=[.ptr dv 0]) (i1 fv Go e6 fb dN _ K df);have wg:=fun K df=>c2.eP (first:=[]) (args:=[y.cj,.bool b,fv]) (cap:=[.ptr dv 0]) (i2 fv Go e6 fb dN rest K df)
    rw [ax.cO] at uF wg;have cr:(f.op==1)=false:=by simp;omega
    have cJ:(f.op==5)=false:=by simp;omega
    have dW:(b==(f.op==6))=true:=by rw [Eh];by_cases fG:f.op=6<;>simp [fG]
    rw [ae] at ke ⊢;refine k3 ?_;refine aa.iM I C C C C C sB (fun pq I=>?_);refine aa.lG I 6 pq C .here (fun I=>?_);refine bP ?_;refine af.cond C (fun h=>by rw [cr] at h;cases h) (fun _=>?_);refine cL ?_;refine af.cond C (fun h=>by rw [cJ] at h;cases h) (fun _=>?_);refine cy ?_;refine af.cond C (fun _=>?_) (fun h=>by rw [dW] at h;cases h)
    repeat (first
     | refine af.p8 I dv aw ak mixed C ?_
     | with_reducible apply af.seq
     | with_reducible apply cf
     | with_reducible apply ga
     | with_reducible apply af.block
     | refine af.gV C ?_
     | refine af.hR C ?_
     | refine dK C ?_
     | refine af.skip ?_)
    refine cH ?_;refine aM.x' C C C C C C C uF I (au.all _) (fun x aL h=>?_) ?_ ?_
    ·rw [List.append_nil]
     rcases h with ⟨_,h⟩|⟨_,h⟩|⟨_,h,_⟩
     ·exact dN.po _ _ h
     ·exact dN.uE _ h
     ·cases h
    rotate_left
    ·rintro x aL (⟨h,_⟩|⟨h,_⟩|⟨v,⟨⟩,aN⟩) I
     ·cases h
     ·cases h
     rw [List.append_nil] at I ⊢;exact Fin.eM I aR (au.all _) (.inr (.inr ⟨_,rfl,aN⟩))
    rintro _ aL (⟨⟨⟩,ao⟩|⟨⟨⟩,ar⟩|⟨_,h,_⟩) I
    ·rw [List.append_nil] at I ⊢
     refine cH ?_;refine aM.x' C C C C C C C (wg _ ao) I (au.all _) (fun x aL h=>?_) ?_ ?_
     ·rw [List.append_nil]
      rcases h with ⟨_,h⟩|⟨_,h⟩|⟨_,h,_⟩
      ·exact dN.po _ _ h
      ·exact dN.uE _ h
      ·cases h
     ·rintro x aL (⟨⟨⟩,ao⟩|⟨⟨⟩,ar⟩|⟨_,⟨⟩,_⟩) I
      all_goals rw [List.append_nil] at I ⊢
      ·refine cH ?_
       exact Fin.bH I C aR (au.all _) (.inl ⟨rfl,ao⟩)
      ·refine cH ?_
       exact Fin.bH I C aR (au.all _) (.inr (.inl ⟨rfl,ar⟩))
     ·rintro x aL (⟨h,_⟩|⟨h,_⟩|⟨v,⟨⟩,aN⟩) I
      ·cases h
      ·cases h
      rw [List.append_nil] at I ⊢;exact Fin.eM I aR (au.all _) (.inr (.inr ⟨_,rfl,aN⟩))
    ·rw [List.append_nil] at I ⊢
     refine cH ?_;exact Fin.bH I C aR (au.all _) (.inr (.inl ⟨rfl,ar⟩))
    ·cases h
   ·rw [if_neg Eh] at df
    have cr:(f.op==1)=false:=by simp;omega
    have cJ:(f.op==5)=false:=by simp;omega
    have dW:(b==(f.op==6))=false:=by
     cases b<;>simp_all
    have Q6:∀ (a:List ez) (rest:List (List ez)),a∈hh b x→yw dv (.func 245 [] [.bq [fv] 0,.bq [oo a] 0]) (fun a1 K=>(∀ z∈a1,z∈hh b y)∧Go (a1.map (iF a)++rest) K) e6 fb:=fun a rest aV=>by
     refine ⟨rfl,fun z rem K ⟨bE,ao⟩=>?_,fun xs K h=>dN.po _ _ h.2,dN.uE⟩;have I':=bE z List.mem_cons_self;refine c2.mono (Q4 dN a z (by have:=sE a z aV I';omega) (fun u hu=>by have:=(I8 a aV).2 u hu;omega) (fun u hu=>by have:=(I9 z I').2 u hu;omega) (rem.map (iF a)++rest) K ao) ?_;rintro o aL (⟨U,h⟩|h|h)
     ·exact .inl ⟨U,fun z kG=>bE z (List.mem_cons_of_mem _ kG),h⟩
     ·exact .inr (.inl h)
     ·exact .inr (.inr h)
    have Q7:yw dv (.func 244 [] [.ptr dv 0,.bq f.cells 0,.bq [.bool b] 0,.bq [fv] 0]) (fun xs K=>(∀ a∈xs,a∈hh b x)∧Go ((xs.flatMap fun a=>(hh b y).map (iF a))++rest) K) e6 fb:=by
     refine ⟨rfl,fun a rem K ⟨aV,ao⟩=>?_,fun xs K h=>dN.po _ _ h.2,dN.uE⟩;obtain ⟨R,aw⟩:=dN.po _ _ ao;unfold qh at aw;refine c2.eP (first:=[]) (cap:=[.ptr dv 0,.bq f.cells 0,.bq [.bool b] 0,.bq [fv] 0]) ?_;refine bu.bp ak call244 Tryz.func244 C C fun s I=>?_
     rw [List.flatMap_cons,List.append_assoc] at ao;have wg:=c2.eP (first:=[]) (args:=[y.cj,.bool b,.func 245 [] [.bq [fv] 0,.bq [oo a] 0]]) (cap:=[.ptr dv 0]) (i2 _ _ e6 fb (Q6 a ((rem.flatMap fun a=>(hh b y).map (iF a))++rest) (aV a List.mem_cons_self)) [] K ⟨fun z bE=>by rw [List.append_nil] at bE;exact bE,by rw [List.append_nil];exact ao⟩);rw [ax.cO] at wg;unfold ax.cells;rw [ae];unfold ax.cells at wg
     repeat (first
      | refine af.p8 I dv aw ak mixed C ?_
      | with_reducible apply af.seq
      | with_reducible apply cf
      | with_reducible apply ga
      | with_reducible apply af.block
      | refine af.gV C ?_
      | refine af.hR C ?_
      | refine dK C ?_
      | refine af.skip ?_)
     refine cH ?_;refine aM.x' C C C C C C C wg I (au.all _) (fun x aL h=>?_) ?_ ?_
     ·rw [List.append_nil]
      rcases h with ⟨_,h⟩|⟨_,h⟩|⟨_,h,_⟩
      ·exact dN.po _ _ h.2
      ·exact dN.uE _ h
      ·cases h
     ·rintro x aL (⟨⟨⟩,ao⟩|⟨⟨⟩,ar⟩|⟨_,⟨⟩,_⟩) I
      all_goals rw [List.append_nil] at I ⊢
      ·refine cH ?_
       exact Fin.bH I C aR (au.all _) (.inl ⟨rfl,fun z bE=>aV z (List.mem_cons_of_mem _ bE),ao.2⟩)
      ·refine cH ?_
       exact Fin.bH I C aR (au.all _) (.inr (.inl ⟨rfl,ar⟩))
     ·rintro x aL (⟨h,_⟩|⟨h,_⟩|⟨v,⟨⟩,aN⟩) I
      ·cases h
      ·cases h
      rw [List.append_nil] at I ⊢;exact Fin.eM I aR (au.all _) (.inr (.inr ⟨_,rfl,aN⟩))
    have uF:=c2.eP (first:=[]) (args:=[x.cj,.bool b,.func 244 [] [.ptr dv 0,.bq f.cells 0,.bq [.bool b] 0,.bq [fv] 0]]) (cap:=[.ptr dv 0]) (i1 _ _ e6 fb Q7 [] K ⟨fun z bE=>by rw [List.append_nil] at bE;exact bE,by rw [List.append_nil];exact df⟩);rw [ax.cO] at uF;unfold ax.cells at uF;rw [ae] at uF ke ⊢;refine k3 ?_;refine aa.iM I C C C C C sB (fun pq I=>?_);refine aa.lG I 6 pq C .here (fun I=>?_);refine bP ?_;refine af.cond C (fun h=>by rw [cr] at h;cases h) (fun _=>?_);refine cL ?_;refine af.cond C (fun h=>by rw [cJ] at h;cases h) (fun _=>?_);refine cy ?_;refine af.cond C (fun h=>by rw [dW] at h;cases h) (fun _=>?_)
    repeat (first
     | refine af.p8 I dv aw ak mixed C ?_
     | with_reducible apply af.seq
     | with_reducible apply cf
     | with_reducible apply ga
     | with_reducible apply af.block
     | refine af.gV C ?_
     | refine af.hR C ?_
     | refine dK C ?_
     | refine af.skip ?_)
    refine cH ?_;refine aM.x' C C C C C C C uF I (au.all _) (fun x aL h=>?_) ?_ ?_
    ·rw [List.append_nil]
     rcases h with ⟨_,h⟩|⟨_,h⟩|⟨_,h,_⟩
     ·exact dN.po _ _ h.2
     ·exact dN.uE _ h
     ·cases h
    ·rintro x aL (⟨⟨⟩,ao⟩|⟨⟨⟩,ar⟩|⟨_,⟨⟩,_⟩) I
     all_goals rw [List.append_nil] at I ⊢
     ·refine cH ?_
      exact Fin.bH I C aR (au.all _) (.inl ⟨rfl,ao.2⟩)
     ·refine cH ?_
      exact Fin.bH I C aR (au.all _) (.inr (.inl ⟨rfl,ar⟩))
    ·rintro x aL (⟨h,_⟩|⟨h,_⟩|⟨v,⟨⟩,aN⟩) I
     ·cases h
     ·cases h
     rw [List.append_nil] at I ⊢;exact Fin.eM I aR (au.all _) (.inr (.inr ⟨_,rfl,aN⟩))
end Go.Proofs.YtnafpeohfbglmaaGreat
namespace Go.bj
def nJ (k:IntKind) (xs:List Int):Value := .agg (xs.map (Value.int k)).toArray
def ji (k:IntKind) (xs:List Int):ad := .agg (xs.map (ad.int k))
structure qi (P:Program) (ds:TypeId) (k:IntKind) (n:Nat):Prop where
 wide:(match P.underlying ds with|some (.array _ _)|some (.struct _)=>true|_=>false)=true
 check:∀ e xs,xs.length=n→∀ w,(Instr.checkKey e 10000 ds (nJ k xs)).run P w = .ok () w
 eq:∀ xs ys,xs.length=n→ys.length=n→∀ w,(Op.equal ds (nJ k xs) (nJ k ys)).run P w = .ok (xs==ys) w
theorem yx {w:World} {p:bN} {k:IntKind} {v:Value}:∀ {xs:List Int},Rel w p v (ji k xs)→v=nJ k xs:=by
 intro xs h;cases h with
 | agg cs _ az=>
 have:∀ {l:List Value} {xs:List Int},bO w p l (xs.map (ad.int k))→l=xs.map (Value.int k):=by
  intro l
  induction l with
  | nil=>intro xs h;cases xs with|nil=>rfl|cons x r=>cases h
  | cons v l a'=>
   intro xs h;cases xs with
   | nil=>cases h
   | cons x r=>
    cases h with
    | cons _ _ _ _ U ae=>
    cases U;rw [a' ae];rfl
 unfold nJ;rw [← this az]
def ld (k:IntKind) (l:List (List Int×ad)):List (ad×ad):=l.map fun e=>(ji k e.1,e.2)
theorem Ja {P:Program} {ds:TypeId} {k:IntKind} {n:Nat} (gR:qi P ds k n) {w:World} {p:bN} {xs:List Int} (ab:xs.length=n):∀ (cw:List MapEntry) (l:List (List Int×ad)) (i:Nat),
  kl w p cw (ld k l)→(∀ e∈l,e.1.length=n) →
  match l.find? (fun e=>e.1==xs) with
  | none=>(Instr.findAsking ds (nJ k xs) cw i).run P w = .ok none w
  | some e=>∃ j val,(Instr.findAsking ds (nJ k xs) cw i).run P w = .ok (some (j,val)) w∧Rel w p val e.2:=by
 intro cw
 induction cw with
 | nil=>
  intro l i az aI;cases l with
  | nil=>rfl
  | cons e r=>exact absurd az.1.length (by simp only [ld,List.map_cons,List.map_nil,List.length_cons,List.length_nil];omega)
 | cons m cw a'=>
  intro l i az aI;cases l with
  | nil=>exact absurd az.1.length (by simp only [ld,List.map_cons,List.map_nil,List.length_cons,List.length_nil];omega)
  | cons e r=>
   obtain ⟨vw,qW⟩:=az;simp only [ld,List.map_cons] at vw qW;cases vw with|cons _ _ _ _ aD qX=>cases qW with|cons _ _ _ _ av oU=>
   have he:=yx aD;have bs:=gR.eq xs e.1 ab (aI e List.mem_cons_self) w;rw [← he] at bs;have aE:(xs==e.1)=(e.1==xs):=by rw [Bool.eq_iff_iff,beq_iff_eq,beq_iff_eq];exact ⟨fun h=>h.symm,fun h=>h.symm⟩
   rw [aE] at bs;rw [List.find?_cons];cases an:e.1==xs with
   | true=>
    rw [an] at bs;simp only;refine ⟨i,m.val,?_,av⟩;unfold Instr.findAsking;simp only [Sem.run_bind,bs,Result.andThen_ok];rfl
   | false=>
    rw [an] at bs;simp only;have:=a' r (i+1) ⟨qX,oU⟩ (fun e he=>aI e (List.mem_cons_of_mem _ he));have tS:(Instr.findAsking ds (nJ k xs) (m::cw) i).run P w=(Instr.findAsking ds (nJ k xs) cw (i+1)).run P w:=by
     conv=>lhs;unfold Instr.findAsking
     simp only [Sem.run_bind,bs,Result.andThen_ok];rfl
    rw [tS];exact this
section
variable {P:Program} {Γ:cg} {N:Nat} {env:Env} {s:aj} {o:Oper} {d:Nat} {ops:Array Oper} {rest:List Oper} {Q:b2→Env→aj→Prop} {L R:a6} {l:List Oper} {i:Nat} {J:aj→Prop}
theorem aU.wh (aO:bL P Γ) {t ds ew:TypeId} {x y:Operand} {ok:Bool} {it aB:bJ} {b n:Nat} {k:IntKind} {es:List (List Int×ad)} {xs:List Int} {z:ad} (gR:qi P ds k n) (ag:o.op = .lookup t x y ok)
  (aK:Γ.get? t=some it) (bo:it.bz = .map ds ew) (bF:Γ.get? ew=some aB) (ab:aJ env x=some (.map b)) (ay:aJ env y=some (ji k xs)) (aC:xs.length=n) (oq:∀ e∈es,e.1.length=n)
  (aw:s b=some (.map (ld k es))) (bE:gy aB.zero=some z) {X:ad→aj→Prop} :
  aU P N o env s (fun x ah=>x=ko ok z ((es.find? fun e=>e.1==xs).map (·.2))∧ah=s) X:=by
 refine aU.jo h6 fun ro B a w p aF=>?_
 obtain ⟨info,ug,U,ae,al,-⟩:=aO.parts aK;obtain ⟨iH,jq,CG,M7,M8,-,-,CH⟩:=aO.parts bF;have ar:ug = .map ds ew:=by rw [bo] at al;cases ug<;>simp [dP] at al;rw [al.1,al.2]
 subst ar;have az:=aF.aJ ab;have jr:=yx (aF.aJ ay);generalize dQ:a.eval x=dr at az;cases az;have CI:(zeroValue ew).run P w = .ok aB.zero w:=by simp [zeroValue,typeInfo,CG,CH]
 obtain ⟨cw,clock,g1,g2,-⟩:=aF.wf.obj _ _ aw;have ba:=Ja gR aC cw.toList es 0 g2 oq;have CK:∃ val,(Instr.lookup t (.map (some b)) (a.eval y) ok).run P w = .ok val w∧Rel w p val (ko ok z ((es.find? fun e=>e.1==xs).map (·.2))):=by
  unfold Instr.lookup;rw [jr];simp only [Sem.run_bind,run_underlying ae,Result.andThen_ok,vx g1 C,Sem.run_pure,gR.check _ xs aC,run_findKey_eq w gR.wide];cases ir:es.find? fun e=>e.1==xs with
  | none=>
   rw [ir] at ba;simp only at ba;simp only [ba,Result.andThen_ok,Sem.run_bind,CI,Sem.run_pure,ko,Option.map_none];cases ok
   ·exact ⟨_,rfl,oR bE⟩
   ·exact ⟨_,rfl,.cl _ _ (.cons _ _ _ _ (oR bE) (.cons _ _ _ _ (.bool _) .nil))⟩
  | some e=>
   rw [ir] at ba;obtain ⟨j,val,dD,c1⟩:=ba;simp only [dD,Result.andThen_ok,Sem.run_pure,ko,Option.map_some];cases ok
   ·exact ⟨_,rfl,c1⟩
   ·exact ⟨_,rfl,.cl _ _ (.cons _ _ _ _ c1 (.cons _ _ _ _ (.bool _) .nil))⟩
 obtain ⟨val,cx,en⟩:=CK;refine ⟨val,w,s,p,_,?_,.refl w p,.refl s w p,aF.wf,⟨rfl,rfl⟩,en⟩;unfold execOp;rw [ag];simp only [dQ];exact fU cx
theorem aU.yy (aO:bL P Γ) {t ds ew:TypeId} {x y z:Operand} {it:bJ} {b n:Nat} {k:IntKind} {es:List (List Int×ad)} {xs:List Int} {v:ad} (gR:qi P ds k n) (ag:o.op = .mapUpdate t x y z∨o.op = .insert t x y z)
  (aK:Γ.get? t=some it) (bo:it.bz = .map ds ew) (ab:aJ env x=some (.map b)) (ay:aJ env y=some (ji k xs)) (bE:aJ env z=some v) (aC:xs.length=n) (oq:∀ e∈es,e.1.length=n)
  (aw:s b=some (.map (ld k es))) (xq:es.find? (fun e=>e.1==xs)=none) {X:ad→aj→Prop} :
  aU P N o env s (fun _ ah=>ah=s.set b (.map (ld k (es++[(xs,v)])))) X:=by
 refine aU.CE (by rcases ag with ag|ag<;>simp [fM,ag]) fun ro B a w p aF=>?_
 obtain ⟨info,ug,U,ae,al,-⟩:=aO.parts aK;have ar:ug = .map ds ew:=by rw [bo] at al;cases ug<;>simp [dP] at al;rw [al.1,al.2]
 subst ar;have az:=aF.aJ ab;have Jb:=aF.aJ ay;have jr:=yx Jb;have CM:=aF.aJ bE;obtain ⟨cw,clock,g1,g2,g3,g4⟩:=aF.wf.obj _ _ aw;generalize dQ:a.eval x=dr at az;cases az;have ba:=Ja gR aC cw.toList es 0 g2 oq;rw [xq] at ba;simp only at ba;have cx:(Instr.mapUpdate t (.map (some b)) (a.eval y) (a.eval z)).run P w = .ok () { w with heap:=w.heap.setIfInBounds b (.map (cw.push { key:=a.eval y,val:=a.eval z,born:=clock }) (clock+1)) }:=by
  unfold Instr.mapUpdate;rw [jr];simp only [Sem.run_bind,run_underlying ae,Result.andThen_ok,vx g1 C,gR.check _ xs aC,run_findKey_eq w gR.wide,ba];simp [setObj,Sem.run,g1]
 have Q8:∀ w',(Instr.mapUpdate t (.map (some b)) (a.eval y) (a.eval z)).run P w = .ok () w'→(execOp a.eval o).run P w = .ok .skip w':=by
  intro w' hw;unfold execOp;rcases ag with ag|ag<;>rw [ag]<;>simp only [dQ]<;>simp only [Sem.run_bind,hw,Result.andThen_ok,Sem.run_pure]
 have en:kl w p (cw.push { key:=a.eval y,val:=a.eval z,born:=clock }).toList (ld k (es++[(xs,v)])):=by
  unfold ld;rw [Array.toList_push,List.map_append];exact ⟨by rw [List.map_append,List.map_append];exact g2.1.append (.cons _ _ _ _ Jb .nil),by rw [List.map_append,List.map_append];exact g2.2.append (.cons _ _ _ _ CM .nil)⟩
 obtain ⟨cz,dj,ft⟩:=CL aF.wf aw (mes':=cw.push { key:=a.eval y,val:=a.eval z,born:=clock }) (clock':=clock+1) en
  (by intro e he;simp only [Array.toList_push,List.mem_append,List.mem_singleton] at he;rcases he with he|rfl;have:=g3 e he;omega;simp)
  (by
   simp only [Array.toList_push,List.map_append,List.map_cons,List.map_nil]
   rw [List.nodup_append]
   refine ⟨g4,by simp,?_⟩
   intro x ab y ay e
   simp only [List.mem_singleton] at ay
   obtain ⟨m,hm,rfl⟩:=List.mem_map.1 ab
   have:=g3 m hm
   omega) _ C
 exact ⟨_,_,p,Q8 _ cx,cz,dj,ft,rfl⟩
theorem aM.wh (aO:bL P Γ) (I:Ok s L) {t ds ew:TypeId} {x y:Operand} {yz:Bool} {it aB:bJ} {b n:Nat} {k:IntKind} {es:List (List Int×ad)} {xs:List Int} {z:ad} (gR:qi P ds k n) (ao:guardOf l.toArray (bc env (looks l.toArray o)) o=some true) (ar:o.dst=some d) (aX:Nat.blt d N=true) (ag:o.op = .lookup t x y yz)
  (aK:Γ.get? t=some it) (bo:it.bz = .map ds ew) (bF:Γ.get? ew=some aB) (ab:aJ (bc env (looks l.toArray o)) x=some (.map b)) (ay:aJ (bc env (looks l.toArray o)) y=some (ji k xs)) (aC:xs.length=n) (oq:∀ e∈es,e.1.length=n)
  (aw:aP L (.own b) (.map (ld k es)) R) (bE:gy aB.zero=some z)
  (h:aM (fun ah=>ah=aQ s L) P Γ N l (i+1) rest Q ((d,ko yz z ((es.find? fun e=>e.1==xs).map (·.2)))::env) (aQ s L)):aM (fun ah=>ah=aQ s L) P Γ N l i (o::rest) Q env (aQ s L):=
 aM.calm ao ar aX (fun _ e=>by subst e;exact aU.wh aO gR ag aK bo bF ab ay aC oq (aw.get I) bE) h
theorem aa.wh (aO:bL P Γ) (I:Ok s L) {t ds ew:TypeId} {x y:Operand} {yz:Bool} {it aB:bJ} {b n:Nat} {k:IntKind} {es:List (List Int×ad)} {xs:List Int} {z:ad} (gR:qi P ds k n) (ao:guardOf ops env o=some true) (ar:o.dst=some d) (aX:Nat.blt d N=true) (ag:o.op = .lookup t x y yz)
  (aK:Γ.get? t=some it) (bo:it.bz = .map ds ew) (bF:Γ.get? ew=some aB) (ab:aJ env x=some (.map b)) (ay:aJ env y=some (ji k xs)) (aC:xs.length=n) (oq:∀ e∈es,e.1.length=n)
  (aw:aP L (.own b) (.map (ld k es)) R) (bE:gy aB.zero=some z)
  (h:aa P N ops rest Q ((d,ko yz z ((es.find? fun e=>e.1==xs).map (·.2)))::env) (aQ s L)):aa P N ops (o::rest) Q env (aQ s L):=
 aa.op ao ar aX (aU.wh aO gR ag aK bo bF ab ay aC oq (aw.get I) bE (X:=fun _ _=>False)) (fun x ah ⟨U,ae⟩=>by subst U;subst ae;exact h) (fun _ _ h=>h.elim)
theorem aM.yy (aO:bL P Γ) (I:Ok s L) {t ds ew:TypeId} {x y z:Operand} {it:bJ} {b n:Nat} {k:IntKind} {es:List (List Int×ad)} {xs:List Int} {v:ad} (gR:qi P ds k n) (ao:guardOf l.toArray (bc env (looks l.toArray o)) o=some true) (ar:o.dst=none) (kD:jL l.toArray i=true) (ag:o.op = .mapUpdate t x y z∨o.op = .insert t x y z)
  (aK:Γ.get? t=some it) (bo:it.bz = .map ds ew) (ab:aJ (bc env (looks l.toArray o)) x=some (.map b)) (ay:aJ (bc env (looks l.toArray o)) y=some (ji k xs)) (bE:aJ (bc env (looks l.toArray o)) z=some v) (aC:xs.length=n) (oq:∀ e∈es,e.1.length=n)
  (aw:aP L (.own b) (.map (ld k es)) R) (xq:es.find? (fun e=>e.1==xs)=none)
  (h:Ok s ((.own b,.map (ld k (es++[(xs,v)])))::R)→Q .normal env (aQ s ((.own b,.map (ld k (es++[(xs,v)])))::R))):aM J P Γ N l i [o] Q env (aQ s L):=
 aM.DO ao ar kD (aU.yy aO gR ag aK bo ab ay bE aC oq (aw.get I) xq (X:=fun _ _=>False)) (fun x ah U=>by
  obtain ⟨b8,bZ⟩:=aw.put (.map (ld k (es++[(xs,v)]))) I
  rw [U,b8];exact h bZ) (fun _ _ h=>h.elim)
end
end Go.bj
namespace Go.Proofs.YtnafpeohfbglmaaGreat
open Go.bj Go.bY
theorem four {xs:List Int} (h:xs.length=4):∃ a b c d,xs=[a,b,c,d]:=by
 match xs,h with
 | [a,b,c,d],_=>exact ⟨a,b,c,d,rfl⟩
theorem two {xs:List Int} (h:xs.length=2):∃ a b,xs=[a,b]:=by
 match xs,h with
 | [a,b],_=>exact ⟨a,b,rfl⟩
theorem Jc {T e:TypeId} {k:IntKind} {info:TypeInfo} (hu:(Tryz.prog).underlying T=some (.array 2 e)) (aY:(Tryz.prog).info? e=some info) (aE:(Tryz.prog).cellsOf e=1) (he:(Tryz.prog).underlying e=some (.int k))
  (aN:∀ (a b:Int) (w:World),(part e #[.int k a,.int k b] 0).run Tryz.prog w = .ok (.int k a) w∧(part e #[.int k a,.int k b] 1).run Tryz.prog w = .ok (.int k b) w) (d:Nat) (a b cR aT:Int) (w:World) :
  (Op.equalIn (d+2) T (.agg #[.int k a,.int k b]) (.agg #[.int k cR,.int k aT])).run Tryz.prog w = .ok ([a,b]==[cR,aT]) w:=by
 rw [show d+2=(d+1)+1 from rfl,run_equalIn_array w _ _ _ hu aY,aE];have bs:∀ a b:Int,(Op.equalIn (d+1) e (.int k a) (.int k b)).run Tryz.prog w = .ok (a==b) w:=fun a b=>run_equalIn_int w d e k k a b he
 simp only [show List.range 2=[0,1] from rfl,Op.eqItems,Sem.run_bind,Nat.zero_mul,Nat.one_mul,(aN a b w).1,(aN a b w).2,(aN cR aT w).1,(aN cR aT w).2,Result.andThen_ok,bs];cases U:a==cR<;>cases ae:b==aT<;>simp_all
theorem Jd:qi Tryz.prog 319 .i64 4:=by
 refine ⟨by kernel_rfl,fun e xs ab w=>?_,fun xs ys ab ay w=>?_⟩
 ·obtain ⟨a,b,c,d,rfl⟩:=four ab
  kernel_rfl
 ·obtain ⟨a,b,c,d,rfl⟩:=four ab
  obtain ⟨cR,aT,mN,cM,rfl⟩:=four ay;have aw:(Tryz.prog).underlying 319 = some (.struct ((Tryz.prog).fieldsOf 319)):=by kernel_rfl
  have aN:(Tryz.prog).stoodInHeld 319 = false:=by kernel_rfl
  have ba:((Tryz.prog).fieldsOf 319).toList=[{ name := "arg", type := 3, offset:=0,embedded:=false,tag := "", pkgPath := "consort/fact", byteOffset:=0 },{ name := "many", type := 3, offset:=1,embedded:=false,tag := "", pkgPath := "consort/fact", byteOffset:=8 },{ name := "path", type := 317, offset:=2,embedded:=false,tag := "", pkgPath := "consort/fact", byteOffset:=16 }]:=by kernel_rfl
  have hint:(Tryz.prog).underlying 3 = some (.int .i64):=by kernel_rfl
  obtain ⟨info,aY⟩:=info_of_underlying hint;have jQ:∀ a b c d:Int,(part 3 #[.int .i64 a,.int .i64 b,.int .i64 c,.int .i64 d] 0).run Tryz.prog w = .ok (.int .i64 a) w:=fun a b c d=>by kernel_rfl
  have A4:∀ a b c d:Int,(part 3 #[.int .i64 a,.int .i64 b,.int .i64 c,.int .i64 d] 1).run Tryz.prog w = .ok (.int .i64 b) w:=fun a b c d=>by kernel_rfl
  have Q9:∀ a b c d:Int,(part 317 #[.int .i64 a,.int .i64 b,.int .i64 c,.int .i64 d] 2).run Tryz.prog w = .ok (.agg #[.int .i64 c,.int .i64 d]) w:=fun a b c d=>by kernel_rfl
  have yA:=Jc (T := 317) (e := 3) (k := .i64) aq aY aq hint (fun a b w=>⟨by kernel_rfl,by kernel_rfl⟩) 9997 c d mN cM w;have av:∀ a b c d:Int,nJ .i64 [a,b,c,d] = .agg #[.int .i64 a,.int .i64 b,.int .i64 c,.int .i64 d]:=fun _ _ _ _=>rfl
  have bs:∀ a b:Int,(Op.equalIn 9999 3 (.int .i64 a) (.int .i64 b)).run Tryz.prog w = .ok (a==b) w:=fun a b=>run_equalIn_int w 9998 3 .i64 .i64 a b hint
  have yA:(Op.equalIn 9999 317 (.agg #[.int .i64 c,.int .i64 d]) (.agg #[.int .i64 mN,.int .i64 cM])).run Tryz.prog w = .ok ([c,d]==[mN,cM]) w:=yA;rw [av,av];unfold Op.equal;rw [show Op.maxDepth=9999+1 from rfl,run_equalIn_struct w _ _ _ _ aw aN,ba];simp only [Op.eqFields,Sem.run_bind,ne_eq,reduceCtorEq,not_false_eq_true,if_true,jQ,A4,Q9,Result.andThen_ok,bs,yA];cases U:a==cR<;>cases ae:b==aT<;>cases al:c==mN<;>cases bl:d==cM<;>simp_all
end Go.Proofs.YtnafpeohfbglmaaGreat
namespace Go.Proofs.YtnafpeohfbglmaaGreat
open Go.bj Go.bY
def hL (sp:List Int):ad:=ji .i64 sp
def hk (w:bT) (mb:Nat):ad := .bq [fx w,.map mb] 0
def jz (k:fD) (e2 bx:ad):List ad:=[.int .i64 k.low,.int .i64 k.high,e2,.int .u64 (k.gk:Int),.int .u64 (k.no:Int),.bool k.whole,.bool k.nH,bx]
def Je:List ad:=jz pj (.aA 1 [] .nil) (.aA 0 [] .nil)
abbrev SMap:=List (List Int×ad)
def pr (mb:Nat) (es:SMap):bU×db:=(.own mb,.map (ld .i64 es))
theorem Jf (Ei mS:ad) (Q':a8 (.aA 0 [] .nil) Ei) (mE:a8 (.aA 0 [] .nil) mS) (w:bT) (mb:Nat) (es:SMap) (oq:∀ e∈es,e.1.length=4) (gF dD c1 dn:Int):bu Tryz.prog 280 [hk w mb,hL [gF,dD,c1,dn]] ([pr mb es]) (fun o K=>(∃ e,es.find? (fun e=>e.1==[gF,dD,c1,dn])=some e∧o = .ret e.2∧K=[pr mb es])∨(es.find? (fun e=>e.1==[gF,dD,c1,dn])=none∧∃ Ej,o = .ret (.ptr Ej 0)∧K=[pr mb (es++[([gF,dD,c1,dn],.ptr Ej 0)]),(.own Ej,.box 340 (jz pj Ei mS))])):=by
 have an:=bQ;refine bu.bp ak call280 Tryz.func280 C C fun s I=>?_
 unfold pr at I ⊢;unfold hk;unfold fx eC
 repeat (first|(refine p1 ?_)|refine aa.iM I C C C C C C (fun b I=>?_)|(refine ON I ?_;clear I;intro I))
 refine aM.wh (xs:=[gF,dD,c1,dn]) ak I Jd C C C C C C C C C C oq a1 C ?_;cases ba:es.find? (fun e=>e.1==[gF,dD,c1,dn]) with
 | some e=>
  simp only [Option.map_some];refine cy ?_;exact Fin.bH I C aR bM (.inl ⟨e,rfl,rfl,rfl⟩)
 | none=>
  simp only [Option.map_none]
  repeat (first
   | refine aM.step C ?_
   | refine aM.nil ?_)
  repeat (first|(refine p1 ?_)|refine aa.iM I C C C C C C (fun b I=>?_)|(refine OO ?_))
  refine af.vJ I b (jz pj Ei mS) .here (.cons aR (.cons aR (.cons Q' (.cons aR (.cons aR (.cons aR (.cons aR (.one mE)))))))) (fun I=>?_);refine rj I ?_;intro I;refine aM.yy (xs:=[gF,dD,c1,dn]) ak I Jd C C C (.inl C) C C C C C C oq a1 ba (fun I=>?_);refine nv ?_;exact Fin.bH I C aR bM (.inr ⟨by first|rfl|trivial,_,rfl,rfl⟩)
theorem Jg (a A5 jQ bw:Int):a7 Tryz.prog 281 [hL [a,0,A5,jQ],.int .i64 bw] (hL [a,1,bw,jQ]):=by
 have an:=bQ;refine a7.bp ak call281 Tryz.func281 C C fun s I=>?_
 unfold hL ji
 repeat (first|(refine p1 ?_)|refine aa.iM I C C C C C C (fun b I=>?_)|refine aa.dE ak I C C C C C C C (fun cv I=>?_)|(refine Dl I ?_;clear I;intro I))
 refine aa.arr ak 0 C C C C C C C C C C ai ?_;refine cn I ?_;intro I;exact Fin.dT I (o8 C C (aP.get a1 I) C) aR
theorem Jh (a A5 jQ bw:Int):a7 Tryz.prog 281 [hL [a,1,A5,jQ],.int .i64 bw] (hL [a,2,A5,bw]):=by
 have an:=bQ;refine a7.bp ak call281 Tryz.func281 C C fun s I=>?_
 unfold hL ji
 repeat (first|(refine p1 ?_)|refine aa.iM I C C C C C C (fun b I=>?_)|refine aa.dE ak I C C C C C C C (fun cv I=>?_)|(refine Dl I ?_;clear I;intro I))
 refine aa.arr ak 1 C C C C C C C C C C ai ?_;refine cn I ?_;intro I;exact Fin.dT I (o8 C C (aP.get a1 I) C) aR
end Go.Proofs.YtnafpeohfbglmaaGreat
namespace Go.Proofs.YtnafpeohfbglmaaGreat
open Go.bj Go.bY
def nK (kb:Nat) (k:fD) (on:bU) (mS:ad):a6:=[(.own kb,.box 340 (jz k (.aA 1 (k.e2.map bg) on) mS)),(on,.row 3 1 k.e2.length)]
structure Ra (k:fD):Prop where
 gk:k.gk<2^64
 no:k.no<2^64
 e2:k.e2.length<bt
structure rG (w:bT) (x:ez):Prop where
 od:hy w x.1=true
 leaf:x.1.du=true
theorem rG.node {w:bT} {x:ez} (h:rG w x):iE w x.1=true:=by
 have:=h.od;rw [rA,Bool.and_eq_true] at this;exact this.1
theorem rG.num {w:bT} {x:ez} (h:rG w x) : -1000000000≤x.1.n∧x.1.n≤1000000000:=by
 have U:=h.node;simp only [iE,h.leaf,if_true,Bool.and_eq_true,decide_eq_true_eq] at U;have oj:=U.2.2.2.2.2.2.2;split at oj
 ·simp at oj;omega
 ·simp [nB] at oj;omega
theorem gO.n {P:Program} {Γ:cg} {N:Nat} {l:List Oper} {Q:b2→Env→aj→Prop} {m:Nat} {env:Env} {s:aj}:gO P Γ N l Q m env s []:=trivial
theorem gO.c {P:Program} {Γ:cg} {N:Nat} {l:List Oper} {Q:b2→Env→aj→Prop} {m:Nat} {env:Env} {s:aj} {i:Nat} {is:List Nat} (h:ja P Γ N l Q m env s i) (t:gO P Γ N l Q m env s is):gO P Γ N l Q m env s (i::is):=⟨h,t⟩
theorem Rb (w:bT) (hw:w.bK.length≤60) (kb:Nat) (k:fD) (aD:Ra k) (ev : -1000000000≤k.low∧k.low≤1000000000 ∧ -1000000001≤k.high∧k.high≤1000000000) (on:bU) (mS:ad) (mE:eN mS=true) (x:ez) (ab:rG w x):bu Tryz.prog 282 [.ptr kb 0,hj x] (nK kb k on mS) (fun o K=>o = .ret (.cl [])∧∃ uG,K=nK kb (k.ask x) uG mS):=by
 have an:=bQ;refine bu.bp ak call282 Tryz.func282 C C fun s I=>?_
 obtain ⟨cz,dj,ft⟩:=aD;have hH:=we.of ab.node ab.leaf;have mT:=ab.num;have ke:=ab.leaf;obtain ⟨f,neg⟩:=x;simp only at hH mT ke;unfold nK at I ⊢;have bW:f.op=2∨f.op=3∨f.op=4:=by
  unfold ax.du at ke;simp at ke;omega
 unfold jz at I ⊢;unfold hj oh ax.cells;rcases bW with ae|ae|ae
 ·obtain ⟨cr,cJ⟩:=hH.cls ae
  obtain ⟨c,aE⟩:∃ c:Nat,f.cls=c:=⟨f.cls.toNat,by omega⟩;have Ji:c<64:=by omega
  have lD:=yl k.no c dj Ji;have lr:=yl k.gk c cz Ji;have aV:k.ask (f,neg)=if neg then { k with no:=k.no|||2^c } else { k with gk:=k.gk|||2^c }:=by
   unfold fD.ask;rw [if_pos ae,aE,Int.toNat_natCast]
  rw [ae,aE];cases neg with
  | true=>
   rw [if_pos C] at aV;rw [aV];refine gu I ?_;intro I;exact Fin.bH I C aR bM ⟨rfl,on,rfl⟩
  | false=>
   rw [if_neg bn] at aV;rw [aV];refine gu I ?_;intro I;exact Fin.bH I C aR bM ⟨rfl,on,rfl⟩
 ·have aV:k.ask (f,neg)=if neg then { k with low:=max k.low f.n } else { k with high:=min k.high (f.n-1),whole:=true }:=by
   unfold fD.ask;rw [if_neg (by simp [ae]),if_pos ae]
  rw [ae];cases neg with
  | true=>
   rw [if_pos C] at aV;rw [aV];have e:(if f.n>k.low then f.n else k.low)=max k.low f.n:=by omega
   refine gu I ?_;intro I;exact Fin.bH I C aR (by rw [← e];exact bM) ⟨rfl,on,rfl⟩
  | false=>
   rw [if_neg bn] at aV;rw [aV];have dU:IntKind.wrap .i64 (f.n-1)=f.n-1:=e0 ai ai;have e:(if f.n-1<k.high then f.n-1 else k.high)=min k.high (f.n-1):=by omega
   refine bP ?_;refine af.re ak mixed C (bf.run C ?_);refine bf.dS 6 ak I C C C C C C C C a1 b3 ?_;refine bf.run C ?_;refine bf.pure 11 C C C C C (.x C) ?_;refine bf.run C ?_;refine bf.cF 15 ak I C C C C C C C C C C C a1 b3 (fun I=>?_);refine bf.run C ?_;refine bf.cF 18 ak I C C C C C C C C C C C a1 b3 (fun I=>?_);refine bf.run C ?_;refine bf.done C ?_;refine gi ?_;have sE:Ok s (nK kb { k with high:=(if IntKind.wrap .i64 (f.n-1)<k.high then IntKind.wrap .i64 (f.n-1) else k.high),whole:=true } on mS):=I;rw [dU,e] at sE;exact Fin.bH (L:=nK kb { k with high:=(if IntKind.wrap .i64 (f.n-1)<k.high then IntKind.wrap .i64 (f.n-1) else k.high),whole:=true } on mS) I C aR (by rw [dU,e];exact au.all _) ⟨rfl,on,rfl⟩
 ·rw [ae]
  cases neg with
  | true=>
   have aV:k.ask (f,true)={ k with e2:=k.e2++[f.n] }:=by
    unfold fD.ask;rw [if_neg (by simp [ae]),if_neg (by simp [ae]),if_pos C]
   rw [aV];refine bP ?_;refine af.re ak mixed C (bf.run C ?_);refine bf.dS 5 ak I C C C C C C C C a1 b3 ?_;refine bf.run C ?_;refine bf.iN 10 ak I C C C C C C C C C eQ C C C C C C C C a1 k4 mK ai (fun yB I=>?_);refine bf.run C ?_;refine bf.cF 14 ak I C C C C C C C C C C C a1 b3 (fun I=>?_);refine bf.run C ?_;refine bf.done C ?_;refine gi ?_;have eF:nK kb { k with e2:=k.e2++[f.n] } (.own yB) mS=[(.own kb,.box 340 [.int .i64 k.low,.int .i64 k.high,.aA 1 (k.e2.map bg++[.int .i64 f.n]) (.own yB),.int .u64 (k.gk:Int),.int .u64 (k.no:Int),.bool k.whole,.bool k.nH,mS]),(.own yB,.row 3 1 (k.e2.length+1))]:=by
    unfold nK jz;simp [bg]
   exact Fin.bH I C aR (K:=nK kb { k with e2:=k.e2++[f.n] } (.own yB) mS) (by rw [eF];exact bM) ⟨rfl,.own yB,rfl⟩
  | false=>
   have aV:k.ask (f,false)={ k with low:=max k.low f.n,high:=min k.high f.n,whole:=true }:=by
    unfold fD.ask;rw [if_neg (by simp [ae]),if_neg (by simp [ae]),if_neg bn]
   rw [aV];have b8:(if f.n>k.low then f.n else k.low)=max k.low f.n:=by omega
   have bZ:(if f.n<k.high then f.n else k.high)=min k.high f.n:=by omega
   refine bP ?_;refine af.re ak mixed C (bf.run C ?_);refine bf.many C (gO.c (ja.mk (i:=7) C C C C (aU.dS ak I C C C a1 C (X:=fun _ _=>False)) ?_ (fun _ _ h=>False.elim h)) (gO.c (ja.mk (i:=16) C C C C (aU.dS ak I C C C a1 C (X:=fun _ _=>False)) ?_ (fun _ _ h=>False.elim h)) gO.n))
   ·rintro _ _ ⟨rfl,rfl⟩
    refine bf.pure 11 C C C C C (.x C) ?_;refine bf.run C ?_;refine bf.many C (gO.c (ja.mk (i:=16) C C C C (aU.dS ak I C C C a1 C (X:=fun _ _=>False)) ?_ (fun _ _ h=>False.elim h)) gO.n)
    ·rintro _ _ ⟨rfl,rfl⟩
     refine bf.pure 20 C C C C C (.x C) ?_;refine bf.run C ?_;refine bf.cF 24 ak I C C C C C C C C C C C a1 b3 (fun I=>?_);refine bf.run C ?_;refine bf.cF 28 ak I C C C C C C C C C C C a1 b3 (fun I=>?_);refine bf.run C ?_;refine bf.cF 31 ak I C C C C C C C C C C C a1 b3 (fun I=>?_);refine bf.run C ?_;refine bf.done C ?_;refine gi ?_;exact Fin.bH I C aR (by rw [← b8,← bZ];exact bM) ⟨rfl,on,rfl⟩
   ·rintro _ _ ⟨rfl,rfl⟩
    refine bf.pure 20 C C C C C (.x C) ?_;refine bf.run C ?_;refine bf.many C (gO.c (ja.mk (i:=7) C C C C (aU.dS ak I C C C a1 C (X:=fun _ _=>False)) ?_ (fun _ _ h=>False.elim h)) gO.n)
    ·rintro _ _ ⟨rfl,rfl⟩
     refine bf.pure 11 C C C C C (.x C) ?_;refine bf.run C ?_;refine bf.cF 24 ak I C C C C C C C C C C C a1 b3 (fun I=>?_);refine bf.run C ?_;refine bf.cF 28 ak I C C C C C C C C C C C a1 b3 (fun I=>?_);refine bf.run C ?_;refine bf.cF 31 ak I C C C C C C C C C C C a1 b3 (fun I=>?_);refine bf.run C ?_;refine bf.done C ?_;refine gi ?_;exact Fin.bH I C aR (by rw [← b8,← bZ];exact bM) ⟨rfl,on,rfl⟩
end Go.Proofs.YtnafpeohfbglmaaGreat
