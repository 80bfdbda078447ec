import Derived.Test.YtnafpeohfbglmaaGreatTf
import Derived.Laws.Bits64
set_option linter.unusedVariables false
set_option linter.unusedSimpArgs false
set_option maxRecDepth 100000
set_option maxHeartbeats 4000000
open Bool renaming and_eq_true→f4,and_false→ak5,eq_false_iff→af3,eq_iff_iff→af0,false_and→f6,false_eq_true→af7,false_or→ah2,or_assoc→ar6,or_eq_true→ah5,or_false→al9,true_and→f5,true_or→am1
open Int renaming le_refl→al1,natCast_nonneg→ao9,sub_zero→aD3,toNat_natCast→i9
open Go.IntKind renaming wrap→ac'
open List renaming all_cons→al8,all_eq_true→af5,all_nil→ap2,any_eq_true→af4,append_assoc→ag',append_nil→d9,cons_append→ab',contains_append→ao0,contains_cons→ar',contains_iff_mem→ah0,drop_length→ax2,drop_nil→as9,drop_replicate→az9,drop_succ_cons→ao2,drop_zero→an2,drop→ap6,ext_getElem?→ap5,findIdx?_append→az0,findIdx?_eq_none_iff→ai0,findIdx?_eq_some_iff_getElem→ag9,foldl_cons→ah4,foldl_nil→av8,getD_cons_succ→av6,getD_cons_zero→az8,getD_eq_getElem?_getD→d5,getElem?_append_left→af9,getElem?_append_right→ae',getElem?_cons_succ→ai4,getElem?_cons_zero→am8,getElem?_drop→ao8,getElem?_eq_getElem→d8,getElem?_eq_none→ak4,getElem?_eq_some_iff→t7,getElem?_map→ae7,getElem?_of_mem→af',getElem?_replicate→au2,getElem?_set_ne→ap1,getElem?_set_self→an1,getElem?_set→au4,getElem?_take→ai2,length_append→f9,length_cons→i5,length_drop→ai8,length_map→f8,length_nil→ag0,length_replicate→ag2,length_reverse→an5,length_set→ag4,length_take→ae9,map_append→ae1,map_cons→ae0,map_map→at9,map_nil→ag7,map_replicate→aw0,map_set→aq2,map_take→as8,mem_append_left→ai7,mem_append_right→an8,mem_append→ae2,mem_cons_of_mem→i0,mem_cons_self→i6,mem_cons→ae8,mem_filter→ag3,mem_of_getElem?→d6,mem_or_eq_of_mem_set→ak9,mem_range→aj2,mem_singleton→t6,nil_append→f0,range→ah8,replicate_succ'→ap3,replicate→H1,set_append_right→al6,set_cons_zero→aA0,set_set→ax0,take_add_one→an3,take_append_of_le_length→ah3,take_length→af1,take_of_length_le→ah1,take_zero→al3
open Nat renaming add_mul→ak1,add_sub_cancel_left→ar5,beq→af2,blt→z2,eq_of_beq_eq_true→ad',le_refl→g7,lt_of_lt_of_le→aj7,lt_or_ge→ap0,lt_succ_iff_lt_or_eq→ah7,lt_succ_self→am3,min_eq_left→am7,mul_one→aj3,not_lt_zero→an6,pow_le_pow_right→ah6,sub_self→am',testBit_lt_two_pow→al0,testBit_or→al7,zero_add→af6,zero_le→g9
open Option renaming getD_some→ae4,some→ak0
open Go.Proofs.Tryz renaming prog→d0
namespace Go.Proofs.YtnafpeohfbglmaaGreat
theorem NN {p:Prop} (h:p:=by rw [aA,Int.toNat_natCast,List.getD_eq_getElem?_getD,List.getElem?_eq_getElem (by omega)];rfl):p:=h
theorem ql {p:Prop} (h:p:=by show p.methods.length-(j+1)<p.methods.length-j;omega):p:=h
theorem qm {p:Prop} (h:p:=by show x.kids.length-(j+1)<x.kids.length-j;omega):p:=h
theorem BB {p:Prop} (h:p:=by (rw [ev (by omega) (by omega),X6])):p:=h
theorem NO {n:Int} (h:0≤n) (ad:n<18446744073709551616):ac' .u64 n=n:=by
 rw [IntKind.wrap_u64];omega
theorem X7 {n:Nat} (aB:n<4294967296):bitsOf .and .u64 (n:Int) 4294967295=some (n:Int):=by
 have h:=uZ (m:=n) (n:=4294967295) ag dV;have e:n &&& 4294967295=n:=by
  rw [show 4294967295=2^32-1 from rfl,Nat.and_two_pow_sub_one_eq_mod,Nat.mod_eq_of_lt aB]
 rw [e] at h;exact h
theorem NP {n:Nat} (aB:n<4294967296):Int.fdiv (n:Int) (2^(min (32:Int).toNat (IntKind.bits .u64)))=0:=by
 have:=u0 (m:=n) (c:=32) ag;rw [Nat.shiftRight_eq_div_pow,Nat.div_eq_of_lt ag] at this;exact this
theorem X8 (n:Nat) (aB:n<4294967296):aV d0 278 [.int .u64 1,.int .u64 (n:Int)] (.cr [.int .u64 0,.int .u64 (n:Int)]):=by
 have an:=bE;refine aV.bl al Tryz.func278 C C fun s I=>?_
 have da:ac' .u64 (1*(n:Int))=(n:Int):=by rw [Int.one_mul];exact NO ag ag
 have l6:ac' .u64 (0*(n:Int))=0:=by rw [Int.zero_mul];rfl
 refine dS ?_;refine ae.bits 1 C C C C C C dV ?_;refine h3 ?_;refine ae.shr 0 C C C C C C ag dV ?_;refine h3 ?_;refine ae.bits (n:Int) C C C C C C (X7 aB) ?_;refine h3 ?_;refine ae.shr 0 C C C C C C ag (NP aB) ?_;refine bK ?_;refine ae.shr 0 C C C C C C ag (by rw [da];exact NP aB) ?_;refine h3 ?_;refine ae.bits 0 C C C C C C (by rw [l6];decide) ?_;refine h3 ?_;refine ae.shr 0 C C C C C C ag (by rw [l6];decide) ?_;refine bK ?_;refine ae.shr 0 C C C C C C ag dV ?_;refine et ?_;exact Fin.cE I C (aZ.of_eq (by rw [da];rfl))
theorem X9 (n:Nat) (aB:n<4294967296):aV d0 258 [.int .u64 1,.int .u64 (n:Int)] (.cr [.int .u64 0,.int .u64 (n:Int)]):=by
 have an:=bE;refine aV.bl al Tryz.func258 C C fun s I=>?_
 have aa:=X8 n aB;refine cl ?_;exact br I
theorem X' (z:Int) (n m k:Nat) (h:m+k≤n) (aA:k≤m):((H1 m z++H1 (n-m) 0).map bg).take m++(((H1 m z++H1 (n-m) 0).map bg).drop 0).take k++((H1 m z++H1 (n-m) 0).map bg).drop (m+k)=(H1 (m+k) z++H1 (n-(m+k)) 0).map bg:=by
 rw [an2,← as8,← as8,← List.map_drop,← ae1,← ae1];congr 1;rw [List.take_left' bc,ah3 cL,List.take_replicate,am7 aA,List.replicate_append_replicate];congr 1;rw [List.drop_append,List.drop_eq_nil_of_le bc,f0,ag2,az9];congr 1;omega
theorem Ya (z:Int) (n:Nat) (aa:1≤n) (aB:n≤1000):bI d0 224 [.aG 1 [.int .i64 z] .clip,.int .i64 (n:Int)] ([]) (fun o K=>∃ b,o = .ret (ee b n n)∧K=[(.own b,.box 3 ((H1 n z).map bg))]):=by
 have an:=bE;refine bI.bl al Tryz.func224 C C fun s I=>?_
 have hm:=X9 n ag;have da:ac' .u64 (n:Int)=(n:Int):=NO ag ag;have j1:ac' .i64 (n:Int)=(n:Int):=ev ag ag;have hm:aV d0 258 [.int .u64 (ac' .u64 1),.int .u64 (ac' .u64 (n:Int))] (.cr [.int .u64 0,.int .u64 (n:Int)]):=by rw [da];exact hm
 refine c5 ?_;refine af.cond C (fun h=>by simp at h;omega) (fun _=>?_);refine c5 ?_;refine ae.yD al I n C C C C C C C C C C (ae6 (fun z=>some (ah.int .i64 z)) j1) (ae6 (fun z=>some (ah.int .i64 z)) j1) (by show _*8≤_;omega) ag (fun b I=>?_);refine h3 ?_;have bo:H1 n (ah.int .i64 0)=(H1 n (0:Int)).map bg:=by rw [aw0];rfl
 refine ae.G0 al I C C C C C C C C C a' C C C cL cL (fun I=>?_);have AN:(H1 n (ah.int .i64 0)).take 0++[ah.int .i64 z]++(H1 n (ah.int .i64 0)).drop (0+[ah.int .i64 z].length)=(H1 1 z++H1 (n-1) 0).map bg:=by
  rw [al3,az9];simp [bg]
 rw [AN] at I ⊢;refine eh ?_;refine af.ck [7] C I (σ:=Nat) (fun m=>[(8,.int .i64 (m:Int))]) (fun m=>[(.own b,.box 3 ((H1 m z++H1 (n-m) 0).map bg))]) (fun m=>1≤m∧m≤n) (fun m=>n-m) 1 ⟨g7 _,aa⟩ (cK C) ba ?_;rintro m ⟨qN,NI⟩ I;refine kG ?_;refine ae.tI al C C C C C C C ?_;refine gj ?_;refine af.cond C (fun az=>?_) (fun a7=>?_);rotate_left
 ·have a7:m=n:=by simp at a7;omega
  subst a7;have qA:(H1 m z++H1 (m-m) 0).map bg=(H1 m z).map bg:=by simp
  rw [qA] at I ⊢;refine c5 ?_;exact Fin.bC I C aT ba ⟨b,rfl,rfl⟩
 have az:m<n:=by simp at az;omega
 have hV:((H1 m z++H1 (n-m) 0).map bg).length=n:=by simp;omega
 refine eh ?_;refine af.qV (fun _=>True) al mixed C (bq.run trivial C ?_);refine bq.G1 3 al trivial m C C C C C C C C C C C C ag ag ag ?_;refine bq.AB 6 al trivial m C C C C C C C C C C C ag ?_;refine bq.run trivial C ?_;refine bq.AS 7 al I (min m (n-m)) C C C C C C C C C C C .here C C (by rw [an2,← as8];exact Bv _) (by rw [hV];omega) (by rw [hV];omega) (fun _ => .inl trivial) (fun I=>?_);rw [X' z n m (min m (n-m)) ag ag] at I ⊢;refine bq.run trivial C (bf.done C ?_);refine uT ?_;exact bD.mk (m+min m (n-m)) I ⟨by omega,by omega⟩ Aq ba (by show n-(m+min m (n-m))<n-m;omega)
abbrev oO:=Int×Int×Nat
def sS (g:Int→Int→List oO) (isLet:Bool) (size:Int):Nat→List Int→List oO
 | _,[]=>[]
 | i,k::r=>g k (if isLet&&i==1 then size+1 else size)++sS g isLet size (i+1) r
def xC (p:bN) (n:Int):Bool:=decide (n≥0)&&decide (n<(p.nodes.length:Int))
def n4 (p:bN):Nat→Int→Int→List oO
 | 0,n,size=>[(n,size,13)]
 | f+1,n,size=>(n,size,12-f)::(if xC p n then sS (n4 p f) (decide ((p.nodes.getD n.toNat default).op=9)) size 0 (p.nodes.getD n.toNat default).kids else [])
def H3 (p:bN) (x:oO):Prop:=xC p x.1=true∧x.2.2≤12
def BC (p:bN) (next:Bool) (x:oO) (out:List Int):Option (List Int):=
 if pq p x.1 out&&decide (x.2.2≤12) then (if yJ p next (p.nodes.getD x.1.toNat default) x.2.1 then some (out.set x.1.toNat x.2.1) else none) else none
def foldI (p:bN) (next:Bool):List oO→List Int→Option (List Int)
 | [],out=>some out
 | x::r,out=>(BC p next x out).bind (foldI p next r)
theorem NQ (p:bN) (next:Bool):∀ (l r:List oO) (out:List Int),foldI p next (l++r) out=(foldI p next l out).bind (foldI p next r)
  | [],r,out=>rfl
  | x::l,r,out=>by
    rw [ab',foldI,foldI];cases BC p next x out with
    | none=>rfl
    | some o=>exact NQ p next l r o
theorem NR (p:bN) (next:Bool) {g:Int→Int→List oO} {h:Int→Int→List Int→Option (List Int)} (aq:∀ k s out,foldI p next (g k s) out=h k s out) (isLet:Bool) (size:Int) :
    ∀ (ks:List Int) (i:Nat) (out:List Int),foldI p next (sS g isLet size i ks) out=lH h isLet size i ks out
  | [],i,out=>rfl
  | k::r,i,out=>by
    rw [sS,lH,NQ,aq];cases h k (if isLet&&i==1 then size+1 else size) out with
    | none=>rfl
    | some o=>exact NR p next aq isLet size r (i+1) o
theorem NS (p:bN) (next:Bool):∀ (f:Nat) (n size:Int) (out:List Int),f≤12→foldI p next (n4 p f n size) out=visitM p next f n size out
  | 0,n,size,out,_=>by
    rw [n4,foldI,visitM,BC];rw [d7 bc];rfl
  | f+1,n,size,out,aX=>by
    rw [n4,foldI,visitM,BC];have ay:decide (((n,size,12-f):oO).2.2≤12)=true:=by simp
    rw [ay,Bool.and_true];cases au:pq p n out with
    | false=>simp
    | true=>
      have fo:xC p n=true:=by
        unfold pq at au;unfold xC;simp only [f4,g6] at au ⊢;exact ⟨au.1,au.2.1⟩
      simp only [ag5,fo];cases aB:yJ p next (p.nodes.getD n.toNat default) size with
      | false=>simp
      | true=>
        simp only [ag5];exact NR p next (fun k s o=>NS p next f k s o ag) _ _ _ _ _
def BD (x:oO):ah := .int .i64 x.1
def BE (x:oO):ah := .agg [.int .i64 x.2.1,.int .i64 (x.2.2:Int)]
def NT (fv:ah) (p:bN) (dQ:Nat):ah := .func 260 [] [.bA [fv] 0,.bA (cI p) 0,.ptr dQ 0]
def xD (fv:ah) (p:bN) (dQ:Nat):dy := .box 306 [NT fv p dQ]
def Yb {α:Type} (Go:List α→bb→Prop) (fD:bb→Prop) (fK:ah→bb→Prop) (rem:List α) (o:eB) (aQ:bb):Prop:=
 (o = .ret (.bool true)∧Go rem aQ)∨(o = .ret (.bool false)∧fD aQ)∨∃ v,o = .panic v∧fK v aQ
structure NU (dQ:Nat) (p:bN) (fv:ah) (Go:List oO→bb→Prop) (fD:bb→Prop) (fK:ah→bb→Prop):Prop where
 call:∀ x rem K,Go (x::rem) K→ds d0 fv [BD x,BE x] K (fun o aQ=>(o = .ret (.bool true)∧H3 p x∧Go rem aQ)∨(o = .ret (.bool false)∧fD aQ)∨∃ v,o = .panic v∧fK v aQ)
 rk:∀ xs K,Go xs K→∃ R,bp K (.own dQ) (xD fv p dQ) R
theorem Yc (p:bN) (aF:gx p) (dQ:Nat) (fv:ah) (Go:List oO→bb→Prop) (fD:bb→Prop) (fK:ah→bb→Prop) (di:NU dQ p fv Go fD fK):∀ (f:Nat),f≤12→∀ (n size:Int),(0≤size∧size+f≤100)→∀ (rest:List oO) (K:bb),Go (n4 p f n size++rest) K →
  bI d0 260 [.int .i64 n,.agg [.int .i64 size,.int .i64 ((13-f:Nat):Int)],.bA [fv] 0,.bA (cI p) 0,.ptr dQ 0] K (Yb Go fD fK rest):=by
 have an:=bE;intro f
 induction f with
 | zero=>
  intro _ n size cc rest K dj;have aD:=di.call (n,size,13) rest K dj;unfold BD BE at aD;refine bI.bl al Tryz.func260 C C fun s I=>?_
  unfold cI;refine dS ?_;refine ae.gM C C C C C C aD I (aJ.all _) ?_ ?_
  ·rintro x aQ (⟨_,aq,_⟩|⟨⟨⟩,ay⟩|⟨_,⟨⟩,_⟩) I
   ·exact absurd aq.2 (by show ¬ (13≤12);omega)
   ·rw [d9] at I ⊢
    refine et ?_;exact Fin.bC I C aT (aJ.all _) (.inr (.inl ⟨rfl,ay⟩))
  ·rintro x aQ (⟨h,_⟩|⟨h,_⟩|⟨v,⟨⟩,aF⟩) I
   ·cases h
   ·cases h
   exact Fin.fc I aT (aJ.jx (aJ.all _)) (.inr (.inr ⟨_,rfl,aF⟩))
 | succ f aW=>
  intro aX n size cc rest K dj;have ay:(13-(f+1):Nat)=12-f:=by omega
  rw [ay];rw [n4,ab'] at dj;have aD:=di.call _ _ K dj;unfold BD BE at aD;refine bI.bl al Tryz.func260 C C fun s I=>?_
  unfold cI;refine dS ?_;refine ae.gM C C C C C C aD I (aJ.all _) ?_ ?_
  ·rintro x aQ (⟨⟨⟩,aq,dj⟩|⟨⟨⟩,ay⟩|⟨_,⟨⟩,_⟩) I
   ·rw [d9] at I ⊢
    obtain ⟨fo,_⟩:=aq;have fo:xC p n=true:=fo;rw [fo,f7 C] at dj;unfold xC at fo;simp only [f4,g6] at fo;obtain ⟨i,rfl⟩:∃ i:Nat,n=i:=⟨n.toNat,by omega⟩;obtain ⟨x,ab,ch⟩:=b7 (f:=jh) (l:=p.nodes) (j:=i) ag;have k1:p.nodes.getD ((i:Int)).toNat default=x:=by rw [i9,d5,ab];rfl
    rw [k1] at dj;have sG:=aF.kids x (d6 ab);unfold jh k7 bj at ch;refine bK ?_;refine af.ck [0,3,4,6,21,22] C I (σ:=Nat×bb) (fun q=>[(23,.int .i64 (q.1:Int))]) (fun q=>q.2) (fun q=>q.1≤x.kids.length∧Go (sS (n4 p f) (decide (x.op=9)) size q.1 (x.kids.drop q.1)++rest) q.2) (fun q=>x.kids.length-q.1) (0,aQ) ⟨g9 _,dj⟩ (cK C) (aJ.all _) ?_;rintro ⟨j,Be⟩ ⟨aI,t'⟩ I;simp only at aI t' I ⊢;refine cf ?_;refine af.cond C (fun az=>?_) (fun a7=>?_);rotate_left
    ·have a7:j=x.kids.length:=by simp at a7;omega
     subst a7;rw [eE (g7 _),sS,f0] at t';refine ew ?_;exact Fin.bC I C aT (aJ.all _) (.inl ⟨rfl,t'⟩)
    have az:j<x.kids.length:=by simpa using az
    obtain ⟨k,aA,eF⟩:=b7 (f:=bg) az;rw [drop_cons aA,sS,ag'] at t';obtain ⟨R,oN⟩:=di.rk _ _ t';have c0:=ds.fm (first:=[]) (args:=[.int .i64 k,.agg [.int .i64 (if decide (x.op=9)&&j==1 then size+1 else size),.int .i64 ((13-f:Nat):Int)]]) (cap:=[.bA [fv] 0,.bA (cI p) 0,.ptr dQ 0]) (aW ag _ _ (by split<;>omega) _ _ t');have da:ac' .i64 (((12-f:Nat):Int)+1)=((13-f:Nat):Int):=by rw [ev ag ag];omega
    have D':((j:Int)==1)=(j==1):=by rw [af0];simp;omega
    have sT:decide (x.op=9)=(x.op==9):=rfl;rw [sT,← da] at c0;unfold cI at c0;unfold xD NT cI at oN;unfold bg at eF
    repeat (first|(refine wO I ?_;clear I;intro I)|refine ae.dZ al I rfl rfl rfl rfl rfl rfl rfl (fun cB I=>?_))
    cases kn:(x.op==9) with
    | false=>
     rw [kn,f6] at c0;simp only [af7,ah9] at c0;refine bK ?_;refine ae.eC al I C C C C C C (.there oN) b5 ?_;refine ct I ?_;intro I;refine ae.gM C C C C C C c0 I (aJ.there (aJ.all Be)) ?_ ?_
     ·rintro _ iK (⟨⟨⟩,BF⟩|⟨⟨⟩,ay⟩|⟨_,⟨⟩,_⟩) I
      ·refine bK ?_
       exact bD.mk (j+1,iK) I ⟨az,by show Go (sS (n4 p f) (decide (x.op=9)) size (j+1) (ap6 (j+1) x.kids)++rest) iK;rw [sT,kn];exact BF⟩ cA (aJ.jx (aJ.all _)) qm
      ·refine fe ?_
       exact Fin.bC I C aT (aJ.jx (aJ.all _)) (.inr (.inl ⟨rfl,ay⟩))
     ·rintro x aQ (⟨h,_⟩|⟨h,_⟩|⟨v,⟨⟩,aF⟩) I
      ·cases h
      ·cases h
      exact Fin.fc I aT (aJ.jx (aJ.all _)) (.inr (.inr ⟨_,rfl,aF⟩))
    | true=>
     rw [kn,f5] at c0;refine gj ?_;cases y9:(j==1) with
     | false=>
      rw [y9] at c0 D';simp only [af7,ah9] at c0;refine af.cond C (fun h=>by rw [D'] at h;cases h) (fun _=>?_);refine eh ?_;refine ae.eC al I C C C C C C (.there oN) b5 ?_;refine ct I ?_;intro I;refine ae.gM C C C C C C c0 I (aJ.there (aJ.all Be)) ?_ ?_
      ·rintro _ iK (⟨⟨⟩,BF⟩|⟨⟨⟩,ay⟩|⟨_,⟨⟩,_⟩) I
       ·refine bK ?_
        exact bD.mk (j+1,iK) I ⟨az,by show Go (sS (n4 p f) (decide (x.op=9)) size (j+1) (ap6 (j+1) x.kids)++rest) iK;rw [sT,kn];exact BF⟩ cA (aJ.jx (aJ.all _)) qm
       ·refine fe ?_
        exact Fin.bC I C aT (aJ.jx (aJ.all _)) (.inr (.inl ⟨rfl,ay⟩))
      ·rintro x aQ (⟨h,_⟩|⟨h,_⟩|⟨v,⟨⟩,aF⟩) I
       ·cases h
       ·cases h
       exact Fin.fc I aT (aJ.jx (aJ.all _)) (.inr (.inr ⟨_,rfl,aF⟩))
     | true=>
      rw [y9] at c0 D';simp only [ag5] at c0;have j1:ac' .i64 (size+1)=size+1:=ev ag ag;rw [← j1] at c0;refine af.cond C (fun _=>?_) (fun h=>by rw [D'] at h;cases h);refine ct I ?_;intro I;refine ae.eC al I C C C C C C (.there oN) b5 ?_;refine ct I ?_;intro I;refine ae.gM C C C C C C c0 I (aJ.there (aJ.all Be)) ?_ ?_
      ·rintro _ iK (⟨⟨⟩,BF⟩|⟨⟨⟩,ay⟩|⟨_,⟨⟩,_⟩) I
       ·refine bK ?_
        exact bD.mk (j+1,iK) I ⟨az,by show Go (sS (n4 p f) (decide (x.op=9)) size (j+1) (ap6 (j+1) x.kids)++rest) iK;rw [sT,kn];exact BF⟩ cA (aJ.jx (aJ.all _)) qm
       ·refine fe ?_
        exact Fin.bC I C aT (aJ.jx (aJ.all _)) (.inr (.inl ⟨rfl,ay⟩))
      ·rintro x aQ (⟨h,_⟩|⟨h,_⟩|⟨v,⟨⟩,aF⟩) I
       ·cases h
       ·cases h
       exact Fin.fc I aT (aJ.jx (aJ.all _)) (.inr (.inr ⟨_,rfl,aF⟩))
   ·rw [d9] at I ⊢
    refine et ?_;exact Fin.bC I C aT (aJ.all _) (.inr (.inl ⟨rfl,ay⟩))
  ·rintro x aQ (⟨h,_⟩|⟨h,_⟩|⟨v,⟨⟩,aF⟩) I
   ·cases h
   ·cases h
   exact Fin.fc I aT (aJ.jx (aJ.all _)) (.inr (.inr ⟨_,rfl,aF⟩))
theorem Yd (p:bN) (aF:gx p) (n size:Int) (cc:0≤size∧size+12≤100):GW d0 259 [] [.bA (cI p) 0,.bA [.int .i64 n] 0,.bA [.int .i64 size,.int .i64 1] 0] [] BD BE (H3 p) (n4 p 12 n size):=by
 intro l Go fD fK pf K bk;have di:∀ dQ,NU dQ p (lY l) (fun xs K=>∃ aQ,K=aQ++[(.own dQ,xD (lY l) p dQ)]∧Go xs aQ) (fun K=>∃ aQ,K=aQ++[(.own dQ,xD (lY l) p dQ)]∧fD aQ) (fun v K=>∃ aQ,K=aQ++[(.own dQ,xD (lY l) p dQ)]∧fK v aQ):=fun dQ=>by
  refine ⟨fun x rem K ⟨aQ,e,aq⟩=>?_,fun xs K ⟨aQ,e,_⟩=>⟨aQ++[],by subst e;exact bp.app aQ .here⟩⟩;subst e;refine ds.frame (R:=[(.own dQ,xD (lY l) p dQ)]) (pf x rem aQ aq) (aJ.jx (aJ.eb aQ)) ?_;rintro o lM (⟨rfl,aa,h⟩|⟨rfl,h⟩|⟨v,rfl,h⟩)
  ·exact .inl ⟨rfl,aa,lM,rfl,h⟩
  ·exact .inr (.inl ⟨rfl,lM,rfl,h⟩)
  ·exact .inr (.inr ⟨v,rfl,lM,rfl,h⟩)
 have hw:=fun dQ=>ds.fm (first:=[]) (args:=[.int .i64 n,.agg [.int .i64 size,.int .i64 1]]) (cap:=[.bA [lY l] 0,.bA (cI p) 0,.ptr dQ 0]) (Yc p aF dQ (lY l) _ _ _ (di dQ) 12 (g7 _) n size ag [] (K++[(.own dQ,xD (lY l) p dQ)]) ⟨K,rfl,by rw [d9];exact bk⟩)
 refine bI.bl al Tryz.func259 C C fun s I=>?_
 rw [f0] at I ⊢
 repeat (first|(refine K5 I ?_;clear I;intro I)|refine ae.dZ al I rfl rfl rfl rfl rfl rfl rfl (fun cB I=>?_))
 refine ae.gM C C C C C C (hw cB) I (aJ.ix (List.perm_append_singleton _ _).symm) ?_ ?_
 ·rintro x _ (⟨⟨⟩,lM,rfl,h⟩|⟨⟨⟩,lM,rfl,h⟩|⟨_,⟨⟩,_⟩) I
  all_goals rw [d9] at I ⊢
  ·refine gj ?_
   exact Fin.bC I C aT (aJ.jx (aJ.eb lM)) (.inl ⟨rfl,.inl h⟩)
  ·refine gj ?_
   exact Fin.bC I C aT (aJ.jx (aJ.eb lM)) (.inl ⟨rfl,.inr h⟩)
 ·rintro x _ (⟨h,_⟩|⟨h,_⟩|⟨v,⟨⟩,lM,rfl,h⟩) I
  ·cases h
  ·cases h
  rw [d9] at I ⊢;exact Fin.fc I aT (aJ.jx (aJ.eb lM)) (.inr ⟨_,rfl,h⟩)
theorem Ye (p:bN) (n size d:Int):aV d0 226 [cD p,.int .i64 n,.agg [.int .i64 size,.int .i64 d]] (.func 259 [] [.bA (cI p) 0,.bA [.int .i64 n] 0,.bA [.int .i64 size,.int .i64 d] 0]):=by
 have an:=bE;refine aV.bl al Tryz.func226 C C fun s I=>?_
 unfold cD cI;refine gE ?_;exact br I
theorem NV:pU d0 277 "consort/bind.many" 335 := Db fC
theorem NW:pU d0 279 "consort/bind.many" 336 := Db fC
theorem NX (p:bN) (x:iU):(x.op=5∧xy x.op = .iface 279 (.agg [])∧so p x=some (p.dt.getD x.n.toNat 0))∨(∃ m,xy x.op=xx m∧so p x=some m)∨(xy x.op = .ob∧so p x=none):=by
 unfold xy so;by_cases aa:x.op=5
 ·left;rw [f7 aa,f7 aa];exact ⟨aa,rfl,rfl⟩
 rw [d7 aa,d7 aa];right;by_cases ad:x.op=1∨x.op=2∨x.op=3∨x.op=6∨x.op=18
 ·left;rw [f7 ad,f7 ad];exact ⟨0,rfl,rfl⟩
 rw [d7 ad,d7 ad];by_cases aj:x.op=4∨x.op=8∨x.op=17
 ·left;rw [f7 aj,f7 aj];exact ⟨1,rfl,rfl⟩
 rw [d7 aj,d7 aj];by_cases a8:x.op=7∨x.op=9∨x.op=11∨x.op=12∨x.op=13∨x.op=14∨x.op=15∨x.op=16
 ·left;rw [f7 a8,f7 a8];exact ⟨2,rfl,rfl⟩
 rw [d7 a8,d7 a8];by_cases bB:x.op=10
 ·left;rw [f7 bB,f7 bB];exact ⟨3,rfl,rfl⟩
 right;rw [d7 bB,d7 bB];exact ⟨rfl,rfl⟩
theorem vo {m l:Int}:((some m==some l)=true)↔l=m:=by
 rw [am5,ak0.injEq];exact eq_comm
def gn (dA b:Nat) (out:List Int):bb:=[(.own dA,.box 23 [ee b out.length out.length]),(.own b,.box 3 (out.map bg))]
def Yf (dA b:Nat) (len:Nat) (r:Option (List Int)) (o:eB) (K:bb):Prop:=
 ∃ out,out.length=len∧K=gn dA b out∧((o = .ret (.cr [])∧r=some out)∨(o = .panic tZ∧r=none))
theorem NY (p:bN) (aF:gx p) (ac1:p.dt.all (fun n=>decide (n≥1)&&decide (n≤3))=true) (dA b:Nat) (out:List Int) (gd:out.length=p.nodes.length) (pO:p.nodes.length≤120) (n size:Int) (next:Bool) (cc:0≤size∧size≤50) :
  ds d0 (.func 225 [] [.bA (cI p) 0,.ptr dA 0]) [.int .i64 n,.int .i64 size,.bool next] (gn dA b out) (Yf dA b p.nodes.length (visitM p next 12 n size out)):=by
 have an:=bE;have mP:=Ye p n size 1;have ox:=Yd p aF n size ag;refine ds.fm (first:=[]) (cap:=[.bA (cI p) 0,.ptr dA 0]) ?_;refine bI.bl al Tryz.func225 C C fun s I=>?_
 rw [← NS p next 12 n size out (g7 _)];unfold cD at mP;unfold cI at *;unfold gn at I;refine cl ?_;refine af.LS I C dV dV ox .nil (fun rem K=>∃ bT,bT.length=p.nodes.length∧K=gn dA b bT∧foldI p next (n4 p 12 n size) out=foldI p next rem bT) (fun _ _=>False) (fun v K=>v=tZ∧foldI p next (n4 p 12 n size) out=none∧∃ bT,bT.length=p.nodes.length∧K=gn dA b bT) ⟨out,gd,rfl,rfl⟩ ?_ ?_ (fun _ _ h=>h.elim) ?_
 ·rintro s₁ x rem K ⟨bT,eQ,rfl,aw⟩ I
  obtain ⟨Ea,xs,H4⟩:=x;unfold BD BE;unfold gn at I ⊢;rw [foldI,BC] at aw;simp only at aw;refine ft ?_;by_cases g1:Ea≥0;rotate_left
  ·refine ae.dh 22 C (i8 g1) ?_
   refine et ?_;refine ae.b4 C C C C C (hf _) I .nil ?_ ?_;rotate_left
   ·rintro _ _ ⟨rfl,h⟩ I
    obtain ⟨aB,rfl⟩:=gS h;rw [f0] at I ⊢;exact At.mk (gn dA b bT) I (aJ.all _) ⟨rfl,(by rw [aw];simp [pq,g1]),bT,eQ,rfl⟩
   rintro _ _ ⟨rfl,h⟩ I;obtain ⟨aj,rfl⟩:=gR h;rw [f0] at I ⊢;exact absurd aj bc
  obtain ⟨i,rfl⟩:∃ i:Nat,Ea=i:=⟨Ea.toNat,by omega⟩;refine ae.dK 22 C (g8 g1) ?_;refine er ?_;by_cases g2:i<p.nodes.length;rotate_left
  ·refine ae.dh 29 C cL ?_
   refine et ?_;refine ae.b4 C C C C C (hf _) I .nil ?_ ?_;rotate_left
   ·rintro _ _ ⟨rfl,h⟩ I
    obtain ⟨aB,rfl⟩:=gS h;rw [f0] at I ⊢;exact At.mk (gn dA b bT) I (aJ.all _) ⟨rfl,(by rw [aw];simp [pq,g2]),bT,eQ,rfl⟩
   rintro _ _ ⟨rfl,h⟩ I;obtain ⟨aj,rfl⟩:=gR h;rw [f0] at I ⊢;exact absurd aj bc
  refine ae.dK 29 C cL ?_;obtain ⟨z,bG⟩:∃ z,bT[i]? = some z:=⟨_,d8 ag⟩;have H5:bT.getD i 0=z:=by rw [d5,bG];rfl
  have q9:(bT.map bg)[i*1]? = some (.int .i64 z):=by rw [aj3,ae7,bG];rfl
  obtain ⟨x,ab,ch⟩:=b7 (f:=jh) (l:=p.nodes) (j:=i) g2;have H6:p.nodes.getD i default=x:=by rw [d5,ab];rfl
  rw [i9,H6] at aw;refine ct I ?_;intro I;refine ae.gF al i C C C C C C C C C C ag ?_;refine ae.lF al I C C C C C C a' C q9 ?_;refine er ?_;have gA:pq p (i:Int) bT=decide (z<0):=by
   unfold pq;rw [i9,H5,g8 g1,show decide ((i:Int)<(p.nodes.length:Int))=true by simp;omega];rfl
  rw [gA] at aw;by_cases g3:z<0;rotate_left
  ·refine ae.dh 36 C (i8 g3) ?_
   refine et ?_;refine ae.b4 C C C C C (hf _) I .nil ?_ ?_;rotate_left
   ·rintro _ _ ⟨rfl,h⟩ I
    obtain ⟨aB,rfl⟩:=gS h;rw [f0] at I ⊢;exact At.mk (gn dA b bT) I (aJ.all _) ⟨rfl,(by rw [aw];simp [g3]),bT,eQ,rfl⟩
   rintro _ _ ⟨rfl,h⟩ I;obtain ⟨aj,rfl⟩:=gR h;rw [f0] at I ⊢;exact absurd aj bc
  refine ae.dK 36 C (g8 g3) ?_;rw [g8 g3,f5] at aw;refine er ?_;refine ae.b4 C C C C C (hf _) I .nil ?_ ?_;rotate_left
  ·rintro _ _ ⟨rfl,h⟩ I
   obtain ⟨aB,rfl⟩:=gS h;rw [f0] at I ⊢;exact At.mk (gn dA b bT) I (aJ.all _) ⟨rfl,(by rw [aw,show decide (H4≤12)=false from (by simp at aB ⊢;omega)];simp),bT,eQ,rfl⟩
  rintro _ _ ⟨rfl,h⟩ I;obtain ⟨aj,rfl⟩:=gR h;rw [f0] at I ⊢;have g4:H4≤12:=by simp at aj;omega
  rw [g8 g4,f7 C] at aw;have Eb:H3 p ((i:Int),xs,H4):=⟨by unfold xC;simp;omega,g4⟩;have wa:eV (i*1) [.int .i64 xs] (bT.map bg)=(bT.set i xs).map bg:=by
   rw [si,aj3,aq2];rfl
  refine ct I ?_;intro I;refine ae.gF al i C C C C C C C C C C ag ?_;refine ae.mK al I _ C C C C C C C C C a' (by rw [f8];show i*1+1≤_;omega) wa (fun I=>?_);have na:(bT.set i xs).length=p.nodes.length:=by rw [ag4];exact eQ
  have oF:=XN p aF x xs;have vp:=XM x.op;unfold cD cI jh k7 bj at oF;unfold jh k7 bj at ch;unfold yJ at aw;cases jc:nm p x xs with
  | false=>
   rw [jc] at oF;rw [jc,f6,d7 bc] at aw;refine ft ?_;refine ae.b4 C C C C C (hf _) I .nil ?_ ?_;rotate_left
   ·rintro _ _ ⟨rfl,h⟩ I
    obtain ⟨aB,rfl⟩:=gS h;rw [f0] at I ⊢;exact At.mk (gn dA b (bT.set i xs)) I (by simp only [gn,ag4];exact ba) ⟨rfl,aw,(bT.set i xs),na,rfl⟩
   rintro _ _ ⟨rfl,h⟩ I;obtain ⟨a8,rfl⟩:=gR h;rw [f0] at I ⊢;exact absurd a8 bc
  | true=>
  rw [jc] at oF;rw [jc,f5] at aw;cases next with
  | true=>
   rw [am1,f5] at aw;refine ft ?_;refine ae.b4 C C C C C (hf _) I .nil ?_ ?_;rotate_left
   ·rintro _ _ ⟨rfl,h⟩ I
    obtain ⟨aB,rfl⟩:=gS h;rw [f0] at I ⊢;exact At.mk (gn dA b (bT.set i xs)) I (by simp only [gn,ag4];exact ba) ⟨rfl,(absurd aB bc),(bT.set i xs),na,rfl⟩
   rintro _ _ ⟨rfl,h⟩ I;obtain ⟨a8,rfl⟩:=gR h;rw [f0] at I ⊢;rcases NX p x with ⟨bB,rF,j7⟩|⟨m,rF,j7⟩|⟨rF,j7⟩
   ·rw [rF] at vp
    rw [j7] at aw;have aI:0≤x.n∧x.n<(p.dt.length:Int):=by
     simpa [nm,bB] using jc
    obtain ⟨k,aA⟩:∃ k:Nat,x.n=k:=⟨x.n.toNat,by omega⟩;have ju:=NL p x k (p.dt.getD x.n.toNat 0) aA NN;unfold cD cI jh k7 bj at ju;refine cl ?_;refine aL.sk C C C C C C NW ju ?_;refine l5 ?_;refine aL.b4 C C C C C C (hf _) I .nil ?_ ?_;rotate_left
    ·rintro _ _ ⟨rfl,h⟩ I
     obtain ⟨aB,rfl⟩:=gS h;rw [f0] at I ⊢;rw [f8] at aB;refine At.mk (gn dA b (bT.set i xs)) I (by simp only [gn,ag4];exact ba) ⟨rfl,?_,_,na,rfl⟩;rw [d7 (fun e=>absurd (vo.mp e) sy)] at aw;exact aw
    rintro _ _ ⟨rfl,h⟩ I;obtain ⟨aB,rfl⟩:=gR h;rw [f0] at I ⊢;rw [f8] at aB;rw [f7 (vo.mpr sy)] at aw;refine fV ?_;exact At.mk (gn dA b (bT.set i xs)) I (by simp only [gn,ag4];exact ba) ⟨Eb,_,na,rfl,aw⟩
   ·rw [rF] at vp
    rw [j7] at aw;unfold xx at vp;have ju:=NK m p x;unfold cD cI jh k7 bj at ju;refine cl ?_;refine aL.sk C C C C C C NV ju ?_;refine l5 ?_;refine aL.b4 C C C C C C (hf _) I .nil ?_ ?_;rotate_left
    ·rintro _ _ ⟨rfl,h⟩ I
     obtain ⟨aB,rfl⟩:=gS h;rw [f0] at I ⊢;rw [f8] at aB;refine At.mk (gn dA b (bT.set i xs)) I (by simp only [gn,ag4];exact ba) ⟨rfl,?_,_,na,rfl⟩;rw [d7 (fun e=>absurd (vo.mp e) sy)] at aw;exact aw
    rintro _ _ ⟨rfl,h⟩ I;obtain ⟨aB,rfl⟩:=gR h;rw [f0] at I ⊢;rw [f8] at aB;rw [f7 (vo.mpr sy)] at aw;refine fV ?_;exact At.mk (gn dA b (bT.set i xs)) I (by simp only [gn,ag4];exact ba) ⟨Eb,_,na,rfl,aw⟩
   ·rw [rF] at vp
    rw [j7] at aw;have aw:foldI p true (n4 p 12 n size) out=none:=aw;refine cl ?_;refine ae.b4 C C C C C (hf _) I .nil ?_ ?_;rotate_left
    ·rintro _ _ ⟨rfl,h⟩ I
     obtain ⟨aB,rfl⟩:=gS h;rw [f0] at I ⊢;exact At.mk (gn dA b (bT.set i xs)) I (by simp only [gn,ag4];exact ba) ⟨rfl,aw,(bT.set i xs),na,rfl⟩
    rintro _ _ ⟨rfl,h⟩ I;obtain ⟨bB,rfl⟩:=gR h;rw [f0] at I ⊢;exact absurd bB bc
  | false=>
   rw [ah2] at aw;refine ft ?_;refine ae.b4 C C C C C (hf _) I .nil ?_ ?_;rotate_left
   ·rintro _ _ ⟨rfl,h⟩ I
    obtain ⟨aB,rfl⟩:=gS h;rw [f0] at I ⊢;exact At.mk (gn dA b (bT.set i xs)) I (by simp only [gn,ag4];exact ba) ⟨rfl,(by rw [show decide (x.op≠18)=false by simpa using aB,f6,d7 bc] at aw;exact aw),(bT.set i xs),na,rfl⟩
   rintro _ _ ⟨rfl,h⟩ I;obtain ⟨a8,rfl⟩:=gR h;rw [f0] at I ⊢;rw [show decide (x.op≠18)=true by simpa using a8,f5] at aw;rcases NX p x with ⟨bB,rF,j7⟩|⟨m,rF,j7⟩|⟨rF,j7⟩
   ·rw [rF] at vp
    rw [j7] at aw;have aI:0≤x.n∧x.n<(p.dt.length:Int):=by
     simpa [nm,bB] using jc
    obtain ⟨k,aA⟩:∃ k:Nat,x.n=k:=⟨x.n.toNat,by omega⟩;have ju:=NL p x k (p.dt.getD x.n.toNat 0) aA NN;unfold cD cI jh k7 bj at ju;refine cl ?_;refine aL.sk C C C C C C NW ju ?_;refine l5 ?_;refine aL.b4 C C C C C C (hf _) I .nil ?_ ?_;rotate_left
    ·rintro _ _ ⟨rfl,h⟩ I
     obtain ⟨aB,rfl⟩:=gS h;rw [f0] at I ⊢;rw [f8] at aB;refine At.mk (gn dA b (bT.set i xs)) I (by simp only [gn,ag4];exact ba) ⟨rfl,?_,_,na,rfl⟩;rw [d7 (fun e=>absurd (vo.mp e) sy)] at aw;exact aw
    rintro _ _ ⟨rfl,h⟩ I;obtain ⟨aB,rfl⟩:=gR h;rw [f0] at I ⊢;rw [f8] at aB;rw [f7 (vo.mpr sy)] at aw;refine fV ?_;exact At.mk (gn dA b (bT.set i xs)) I (by simp only [gn,ag4];exact ba) ⟨Eb,_,na,rfl,aw⟩
   ·rw [rF] at vp
    rw [j7] at aw;unfold xx at vp;have ju:=NK m p x;unfold cD cI jh k7 bj at ju;refine cl ?_;refine aL.sk C C C C C C NV ju ?_;refine l5 ?_;refine aL.b4 C C C C C C (hf _) I .nil ?_ ?_;rotate_left
    ·rintro _ _ ⟨rfl,h⟩ I
     obtain ⟨aB,rfl⟩:=gS h;rw [f0] at I ⊢;rw [f8] at aB;refine At.mk (gn dA b (bT.set i xs)) I (by simp only [gn,ag4];exact ba) ⟨rfl,?_,_,na,rfl⟩;rw [d7 (fun e=>absurd (vo.mp e) sy)] at aw;exact aw
    rintro _ _ ⟨rfl,h⟩ I;obtain ⟨aB,rfl⟩:=gR h;rw [f0] at I ⊢;rw [f8] at aB;rw [f7 (vo.mpr sy)] at aw;refine fV ?_;exact At.mk (gn dA b (bT.set i xs)) I (by simp only [gn,ag4];exact ba) ⟨Eb,_,na,rfl,aw⟩
   ·rw [rF] at vp
    rw [j7] at aw;have aw:foldI p false (n4 p 12 n size) out=none:=aw;refine cl ?_;refine ae.b4 C C C C C (hf _) I .nil ?_ ?_;rotate_left
    ·rintro _ _ ⟨rfl,h⟩ I
     obtain ⟨aB,rfl⟩:=gS h;rw [f0] at I ⊢;exact At.mk (gn dA b (bT.set i xs)) I (by simp only [gn,ag4];exact ba) ⟨rfl,aw,(bT.set i xs),na,rfl⟩
    rintro _ _ ⟨rfl,h⟩ I;obtain ⟨bB,rfl⟩:=gR h;rw [f0] at I ⊢;exact absurd bB bc
 ·rintro K ⟨bT,eQ,rfl,aw⟩ I
  rw [foldI] at aw;refine fV ?_;exact Fin.bC I C aT (aJ.all _) ⟨bT,eQ,rfl,.inl ⟨rfl,aw⟩⟩
 ·rintro v K ⟨rfl,aw,bT,eQ,rfl⟩ I
  exact Fin.fc I aT (aJ.all _) ⟨bT,eQ,rfl,.inr ⟨rfl,aw⟩⟩
def Yg (p:bN) (dA:Nat) (o:eB) (K:bb):Prop:=
 (o = .ret (.cr [])∧∃ b out,out.length=p.nodes.length∧nZ p=some out∧K=gn dA b out)∨(o = .panic tZ∧nZ p=none∧∃ v R,K=(.own dA,.box 23 [v])::R)
theorem Yh (p:bN) (aF:gx p) (dA:Nat) (v0:ah) :
  ds d0 (.func 221 [] [.bA (cI p) 0,.ptr dA 0]) [] [(.own dA,.box 23 [v0])] (Yg p dA):=by
 have an:=bE;have hG:=XL p aF;have j2:=aF.dt;have hV:=aF.y5;have pO:=aF.nodes;refine ds.fm (first:=[]) (cap:=[.bA (cI p) 0,.ptr dA 0]) ?_;refine bI.bl al Tryz.func221 C C fun s I=>?_
 have NZ:=NF p aF;unfold cD at *;unfold cI bj at *;have b8:nZ p=nZ p:=rfl
 conv at b8=>rhs;unfold nZ
 refine kG ?_;refine ae.b4 C C C C C hG I .nil ?_ ?_;rotate_left
 ·rintro _ _ ⟨rfl,h⟩ I
  obtain ⟨aB,rfl⟩:=gS h;rw [f0] at I ⊢;exact Fin.fc I aT (aJ.all _) (.inr ⟨rfl,by rw [b8,aB];rfl,_,_,rfl⟩)
 rintro _ _ ⟨rfl,h⟩ I;obtain ⟨b9,rfl⟩:=gR h;rw [f0] at I ⊢;rw [b9,f5] at b8;have lN:=G7 b9;have Yi:(fG 0 p.cm).length<bx:=by have h:(fG 0 p.cm).length≤40:=lN.bm;omega
 have NZ:=NZ Yi;refine h3 ?_;by_cases g1:p.dt.length≤8;rotate_left
 ·refine ae.dh 14 C cL ?_
  refine et ?_;refine ae.b4 C C C C C (hf _) I .nil ?_ ?_;rotate_left
  ·rintro _ _ ⟨rfl,h⟩ I
   obtain ⟨aB,rfl⟩:=gS h;rw [f0] at I ⊢;exact Fin.fc I aT (aJ.all _) (.inr ⟨rfl,(by rw [b8];simp [p6,g1]),_,_,rfl⟩)
  rintro _ _ ⟨rfl,h⟩ I;obtain ⟨aa,rfl⟩:=gR h;rw [f0] at I ⊢;exact absurd aa bc
 refine ae.dK 14 C cL ?_;refine er ?_;by_cases g2:p.methods.length≤16;rotate_left
 ·refine ae.dh 20 C cL ?_
  refine et ?_;refine ae.b4 C C C C C (hf _) I .nil ?_ ?_;rotate_left
  ·rintro _ _ ⟨rfl,h⟩ I
   obtain ⟨aB,rfl⟩:=gS h;rw [f0] at I ⊢;exact Fin.fc I aT (aJ.all _) (.inr ⟨rfl,(by rw [b8];simp [p6,g2]),_,_,rfl⟩)
  rintro _ _ ⟨rfl,h⟩ I;obtain ⟨aa,rfl⟩:=gR h;rw [f0] at I ⊢;exact absurd aa bc
 refine ae.dK 20 C cL ?_;refine er ?_;by_cases g3:p.nodes.length≥1;rotate_left
 ·refine ae.dh 26 C cL ?_
  refine et ?_;refine ae.b4 C C C C C (hf _) I .nil ?_ ?_;rotate_left
  ·rintro _ _ ⟨rfl,h⟩ I
   obtain ⟨aB,rfl⟩:=gS h;rw [f0] at I ⊢;exact Fin.fc I aT (aJ.all _) (.inr ⟨rfl,(by rw [b8];simp [p6,show ¬ 1≤p.nodes.length by omega]),_,_,rfl⟩)
  rintro _ _ ⟨rfl,h⟩ I;obtain ⟨aa,rfl⟩:=gR h;rw [f0] at I ⊢;exact absurd aa bc
 refine ae.dK 26 C cL ?_;refine er ?_;refine ae.b4 C C C C C (hf _) I .nil ?_ ?_;rotate_left
 ·rintro _ _ ⟨rfl,h⟩ I
  obtain ⟨aB,rfl⟩:=gS h;rw [f0] at I ⊢;exact Fin.fc I aT (aJ.all _) (.inr ⟨rfl,(by rw [b8];simp at aB;simp [p6,show ¬ p.nodes.length≤120 by omega]),_,_,rfl⟩)
 rintro _ _ ⟨rfl,h⟩ I;obtain ⟨g4,rfl⟩:=gR h;rw [f0] at I ⊢;have g4:p.nodes.length≤120:=by simp at g4;omega
 have Yj:p6 p=p.dt.all (fun n=>decide (n≥1)&&decide (n≤3)):=by
  unfold p6;rw [g8 g1,g8 g2,g8 g3,g8 g4];rfl
 rw [Yj] at b8;refine bK ?_;refine af.ck [0,1,34,35] C I (σ:=Nat) (fun j=>[(36,.int .i64 (j:Int))]) (fun _=>[(.own dA,.box 23 [v0])]) (fun j=>j≤p.dt.length∧p.dt.all (fun n=>decide (n≥1)&&decide (n≤3))=(p.dt.drop j).all (fun n=>decide (n≥1)&&decide (n≤3))) (fun j=>p.dt.length-j) 0 ⟨g9 _,rfl⟩ (cK C) ba ?_;rintro j ⟨aI,aw⟩ I
 try simp only at aI aw I ⊢
 refine cf ?_;refine af.cond C (fun az=>?_) (fun a7=>?_)
 ·have az:j<p.dt.length:=by simpa using az
  obtain ⟨x,ab,ch⟩:=b7 (f:=bg) az;rw [drop_cons ab,al8] at aw;unfold bg at ch;refine eh ?_;by_cases g5:x≥1;rotate_left
  ·refine ae.dh 42 C (i8 g5) ?_
   refine et ?_;refine ae.b4 C C C C C (hf _) I .nil ?_ ?_;rotate_left
   ·rintro _ _ ⟨rfl,h⟩ I
    obtain ⟨aB,rfl⟩:=gS h;rw [f0] at I ⊢;exact Fin.fc I aT (aJ.all _) (.inr ⟨rfl,(by rw [b8,aw,i8 g5];rfl),_,_,rfl⟩)
   rintro _ _ ⟨rfl,h⟩ I;obtain ⟨bB,rfl⟩:=gR h;rw [f0] at I ⊢;exact absurd bB bc
  refine ae.dK 42 C (g8 g5) ?_;rw [g8 g5,f5] at aw;refine er ?_;refine ae.b4 C C C C C (hf _) I .nil ?_ ?_;rotate_left
  ·rintro _ _ ⟨rfl,h⟩ I
   obtain ⟨aB,rfl⟩:=gS h;rw [f0] at I ⊢;exact Fin.fc I aT (aJ.all _) (.inr ⟨rfl,(by rw [b8,aw,show decide (x≤3)=false from aB];rfl),_,_,rfl⟩)
  rintro _ _ ⟨rfl,h⟩ I;obtain ⟨bB,rfl⟩:=gR h;rw [f0] at I ⊢;rw [show decide (x≤3)=true from bB,f5] at aw;refine hC ?_;exact bD.mk (j+1) I ⟨az,aw⟩ cA ba (by show p.dt.length-(j+1)<p.dt.length-j;omega)
 have a7:j=p.dt.length:=by simp at a7;omega
 subst a7;rw [eE (g7 _),ap2] at aw;have rG:=aw;rw [aw,f7 C] at b8;have Yk:=Ya (-1) p.nodes.length g3 ag;have hlen:((p.nodes.map jh).length:Int)=(p.nodes.length:Int):=by rw [f8]
 refine bK ?_;refine ae.b4 C C C C (by rw [f8];rfl) Yk I .nil ?_ (fun _ _ ⟨_,h,_⟩ _=>by cases h);rintro _ _ ⟨b,⟨⟩,rfl⟩ I;rw [ab',f0] at I ⊢;refine K6 I ?_;intro I;refine af.ck [0,1,4,5,57,58] C I (σ:=Nat×List Int) (fun q=>[(59,.int .i64 (q.1:Int))]) (fun q=>gn dA b q.2) (fun q=>q.1≤p.methods.length∧q.2.length=p.nodes.length∧nY p p.methods (H1 p.nodes.length (-1))=nY p (p.methods.drop q.1) q.2) (fun q=>p.methods.length-q.1) (0,H1 p.nodes.length (-1)) ⟨g9 _,ag2,rfl⟩ (cK C) (by simp only [gn,ag2];exact ba) ?_;rintro ⟨j,out⟩ ⟨aI,gd,aw⟩ I
 try simp only at aI gd aw I ⊢
 refine cf ?_;refine af.cond C (fun az=>?_) (fun a7=>?_)
 ·have az:j<p.methods.length:=by simpa using az
  obtain ⟨m,ab,ch⟩:=b7 (f:=mJ) az;have fs:=d6 ab;rw [drop_cons ab,nY] at aw;have cc:=aF.facts m fs;have BG:=VB (bY p) lN m.fact ag;have gA:=XO (bY p) m.fact.size m.fact (g7 _) ag;rw [av.cG] at BG gA;unfold av.cells at BG gA;unfold mJ oA at ch;refine ft ?_;by_cases k9:m.kind≥1;rotate_left
  ·refine ae.dh 66 C (i8 k9) ?_
   refine et ?_;refine ae.b4 C C C C C (hf _) I .nil ?_ ?_;rotate_left
   ·rintro _ _ ⟨rfl,h⟩ I
    obtain ⟨aB,rfl⟩:=gS h;rw [f0] at I ⊢;exact Fin.fc I aT (aJ.all _) (.inr ⟨rfl,(by rw [b8,aw];simp [sq,k9]),_,_,rfl⟩)
   rintro _ _ ⟨rfl,h⟩ I;obtain ⟨aa,rfl⟩:=gR h;rw [f0] at I ⊢;exact absurd aa bc
  refine ae.dK 66 C (g8 k9) ?_;refine er ?_;by_cases gP:m.kind≤4;rotate_left
  ·refine ae.dh 71 C (i8 gP) ?_
   refine et ?_;refine ae.b4 C C C C C (hf _) I .nil ?_ ?_;rotate_left
   ·rintro _ _ ⟨rfl,h⟩ I
    obtain ⟨aB,rfl⟩:=gS h;rw [f0] at I ⊢;exact Fin.fc I aT (aJ.all _) (.inr ⟨rfl,(by rw [b8,aw];simp [sq,gP]),_,_,rfl⟩)
   rintro _ _ ⟨rfl,h⟩ I;obtain ⟨aa,rfl⟩:=gR h;rw [f0] at I ⊢;exact absurd aa bc
  refine ae.dK 71 C (g8 gP) ?_;refine er ?_;by_cases ss:m.gen≥0;rotate_left
  ·refine ae.dh 76 C (i8 ss) ?_
   refine et ?_;refine ae.b4 C C C C C (hf _) I .nil ?_ ?_;rotate_left
   ·rintro _ _ ⟨rfl,h⟩ I
    obtain ⟨aB,rfl⟩:=gS h;rw [f0] at I ⊢;exact Fin.fc I aT (aJ.all _) (.inr ⟨rfl,(by rw [b8,aw];simp [sq,ss]),_,_,rfl⟩)
   rintro _ _ ⟨rfl,h⟩ I;obtain ⟨aa,rfl⟩:=gR h;rw [f0] at I ⊢;exact absurd aa bc
  refine ae.dK 76 C (g8 ss) ?_;obtain ⟨g,aq⟩:∃ g:Nat,m.gen=g:=⟨m.gen.toNat,by omega⟩;have Yl:sq p m=(decide (g<p.dt.length)&&(ig (bY p) m.fact&&decide (iV m.fact≤p.dt.getD g 0))):=by
   unfold sq;rw [g8 k9,g8 gP,g8 ss,aq,i9];simp
  rw [Yl,aq,i9] at aw;rw [aq];refine er ?_;refine ae.b4 C C C C C (hf _) I .nil ?_ ?_;rotate_left
  ·rintro _ _ ⟨rfl,h⟩ I
   obtain ⟨aB,rfl⟩:=gS h;rw [f0] at I ⊢;exact Fin.fc I aT (aJ.all _) (.inr ⟨rfl,(by rw [b8,aw,show decide (g<p.dt.length)=false by simpa using aB];rfl),_,_,rfl⟩)
  rintro _ _ ⟨rfl,h⟩ I;obtain ⟨su,rfl⟩:=gR h;rw [f0] at I ⊢;have su:g<p.dt.length:=by simpa using su
  rw [g8 su,f5] at aw;obtain ⟨x,BH,Ym⟩:=b7 (f:=bg) su;have k1:p.dt.getD g 0=x:=by rw [d5,BH];rfl
  have ac2:1≤x∧x≤3:=by
   have:=af5.1 rG x (d6 BH);simpa using this
  rw [k1] at aw;unfold bg at Ym;cases aX:ig (bY p) m.fact with
  | false=>
   rw [aX] at BG;simp only [af7,ah9] at BG;refine pd ?_;refine aL.b4 C C C C C C (hf _) I .nil ?_ ?_;rotate_left
   ·rintro _ _ ⟨rfl,h⟩ I
    obtain ⟨aB,rfl⟩:=gS h;rw [f0] at I ⊢;exact Fin.fc I aT (aJ.all _) (.inr ⟨rfl,(by rw [b8,aw,aX];rfl),_,_,rfl⟩)
   rintro _ _ ⟨rfl,h⟩ I;obtain ⟨aa,rfl⟩:=gR h;rw [f0] at I ⊢;exact absurd aa bc
  | true=>
  rw [aX,f7 C] at BG;rw [aX,f5] at aw;have gA:=gA (sm m.fact (bY p) 12 24 aX);refine pd ?_;refine aL.b4 C C C C C C (hf _) I .nil ?_ ?_;rotate_left
  ·rintro _ _ ⟨rfl,h⟩ I
   obtain ⟨aB,rfl⟩:=gS h;rw [f0] at I ⊢;exact Fin.fc I aT (aJ.all _) (.inr ⟨rfl,(by rw [b8,aw,aB];rfl),_,_,rfl⟩)
  rintro _ _ ⟨rfl,h⟩ I;obtain ⟨Yn,rfl⟩:=gR h;rw [f0] at I ⊢;rw [Yn,f7 C] at aw;have vq:=NY p aF rG dA b out gd g4 m.node x (tR m.kind) ag;unfold cI at vq;by_cases aA:m.kind=1
  ·rw [aA] at vq aw ⊢
   refine pd ?_;refine aL.gM C C C C C C C vq I (aJ.all _) ?_ ?_;rotate_left
   ·rintro _ _ ⟨bT,eQ,rfl,(⟨h,_⟩|⟨⟨⟩,ar⟩)⟩ I
    ·cases h
    rw [ar] at aw;exact Fin.fc I aT (aJ.all _) (.inr ⟨rfl,by rw [b8,aw];rfl,_,_,rfl⟩)
   rintro _ _ ⟨bT,eQ,rfl,(⟨⟨⟩,ar⟩|⟨h,_⟩)⟩ I;rotate_left
   ·cases h
   rw [ar] at aw;rw [d9] at I ⊢;refine fV ?_;exact bD.mk (j+1,bT) I ⟨az,eQ,aw⟩ cA (aJ.all _) ql
  ·have sf:tR m.kind=decide (m.kind=4):=by unfold tR;rw [i8 aA];rfl
   rw [sf] at vq aw;refine pd ?_;refine aL.split 115 C (fun h=>absurd (aj1 h) aA) (fun _=>?_);refine l5 ?_;refine aL.gM C C C C C C C vq I (aJ.all _) ?_ ?_;rotate_left
   ·rintro _ _ ⟨bT,eQ,rfl,(⟨h,_⟩|⟨⟨⟩,ar⟩)⟩ I
    ·cases h
    rw [ar] at aw;exact Fin.fc I aT (aJ.all _) (.inr ⟨rfl,by rw [b8,aw];rfl,_,_,rfl⟩)
   rintro _ _ ⟨bT,eQ,rfl,(⟨⟨⟩,ar⟩|⟨h,_⟩)⟩ I;rotate_left
   ·cases h
   rw [ar] at aw;rw [d9] at I ⊢;refine fV ?_;exact bD.mk (j+1,bT) I ⟨az,eQ,aw⟩ cA (aJ.all _) ql
 have a7:j=p.methods.length:=by simp at a7;omega
 subst a7;rw [eE (g7 _),nY] at aw;rw [aw] at b8;have vq:=NY p aF rG dA b out gd g4 p.main 0 false ag;unfold cI at vq;refine bK ?_;refine ae.gM C C C C C C vq I (aJ.all _) ?_ ?_;rotate_left
 ·rintro _ _ ⟨bT,eQ,rfl,(⟨h,_⟩|⟨⟨⟩,ar⟩)⟩ I
  ·cases h
  exact Fin.fc I aT (aJ.all _) (.inr ⟨rfl,by rw [b8];show (visitM p false 12 p.main 0 out).bind _=none;rw [ar];rfl,_,_,rfl⟩)
 rintro _ _ ⟨bT,eQ,rfl,(⟨⟨⟩,ar⟩|⟨h,_⟩)⟩ I;rotate_left
 ·cases h
 have b8:nZ p=if bT.contains (-1) then none else some bT:=by
  rw [b8];show (visitM p false 12 p.main 0 out).bind _=_;rw [ar];rfl
 rw [d9] at I ⊢;have sU:=MR b bT.length bT [] (-1) ag;unfold vg at sU;rw [d9] at sU;unfold gn at I;refine ct I ?_;intro I;refine ae.b4 rfl rfl rfl rfl rfl sU I ba ?_ (fun _ _ ⟨h,_⟩ _=>by cases h);rintro _ _ ⟨⟨⟩,rfl⟩ I;simp only [ab',f0] at I ⊢;refine er ?_;refine ae.b4 C C C C C (hf _) I .nil ?_ ?_;rotate_left
 ·rintro _ _ ⟨rfl,h⟩ I
  obtain ⟨aB,rfl⟩:=gS h;rw [f0] at I ⊢;exact Fin.fc I aT (.cons (.there .here) (.cons .here .nil)) (.inr ⟨rfl,by rw [b8,show bT.contains (-1)=true by simpa using aB];rfl,_,_,rfl⟩)
 rintro _ _ ⟨rfl,h⟩ I;obtain ⟨aa,rfl⟩:=gR h;rw [f0] at I ⊢;rw [show bT.contains (-1)=false by simpa using aa,d7 bc] at b8;refine gj ?_;exact Fin.bC I C aT (.cons (.there .here) (.cons .here .nil)) (.inl ⟨rfl,b,bT,eQ,b8,rfl⟩);done
def Yo (p:bN) (o:eB) (K:bb):Prop:=
 (∃ b out,out.length=p.nodes.length∧nZ p=some out∧o = .ret (.cr [ee b out.length out.length,.bool true])∧K=[(.own b,.box 3 (out.map bg))])∨(nZ p=none∧(∃ v,o = .ret (.cr [v,.bool false]))∧K=[])
theorem Yp (p:bN) (aF:gx p):bI d0 187 [cD p] ([]) (Yo p):=by
 have an:=bE;refine bI.bl al Tryz.func187 C C fun s I=>?_
 unfold cD cI
 repeat (first|(refine Gj ?_)|refine ae.dZ al I C C C C C C C (fun cB I=>?_))
 have aX:=X4 221 [] [.bA (cI p) 0,.ptr cB 0] [(.own cB,.box 23 [.aG 0 [] .nil])] (fun K=>∃ b out,out.length=p.nodes.length∧nZ p=some out∧K=gn cB b out) (fun K=>nZ p=none∧∃ v R,K=(.own cB,.box 23 [v])::R) (ds.mono (Yh p aF cB (.aG 0 [] .nil)) (fun o K h=>by
  rcases h with ⟨aa,b,out,ad,aj,a8⟩|⟨aa,ad,aj⟩
  ·exact .inl ⟨aa,b,out,ad,aj,a8⟩
  ·exact .inr ⟨aa,ad,aj⟩))
 unfold cI at aX;refine ae.b4 C C C C C aX I ba ?_ ?_;rotate_left
 ·rintro x aQ (⟨h,_⟩|⟨h,_⟩) I
  ·cases h
  ·cases h
 rintro x aQ (⟨⟨⟩,b,out,aC,fj,rfl⟩|⟨⟨⟩,fj,v,R,rfl⟩) I
 ·unfold gn at I ⊢
  simp only [ab',f0,d9] at I ⊢;refine ct I ?_;intro I;exact Fin.bC I C aT (.cons (.there .here) .nil) (.inl ⟨b,out,aC,fj,rfl,rfl⟩)
 ·simp only [ab',f0,d9] at I ⊢
  refine ct I ?_;intro I;exact Fin.bC I C aT .nil (.inr ⟨fj,⟨v,rfl⟩,rfl⟩)
theorem Yq (p:bN) (aF:gx p):aV d0 146 [cD p] (.int .i64 (if fX p then 0 else 2)):=by
 have an:=bE;refine aV.bl al Tryz.func146 C C fun s I=>?_
 have bG:=Yp p aF;unfold cD cI at *;unfold fX;refine dS ?_;refine ae.b4 C C C C C bG I .nil ?_ ?_;rotate_left
 ·rintro x aQ (⟨b,out,_,_,h,_⟩|⟨_,⟨v,h⟩,_⟩) I
  ·cases h
  ·cases h
 rintro x aQ (⟨b,out,_,fj,⟨⟩,rfl⟩|⟨fj,⟨v,⟨⟩⟩,rfl⟩) I
 ·rw [fj]
  refine bK ?_;exact br I
 ·rw [fj]
  refine et ?_;exact br I
def N0:ah := .agg [.aG 0 [] .nil,.aG 0 [] .nil]
theorem Yr {p:bN} (h:fX p=true):po p=true:=by
 unfold fX nZ at h;cases aD:po p with
 | true=>rfl
 | false=>rw [aD,f6] at h;cases h
theorem vr {p:bN} (h:fX p=true):fw (bY p):=G7 (Yr h)
theorem H7 (p:bN) (aF:gx p):aV d0 100 [cD p] (.cr [if fX p then eI (bY p) else N0,.int .i64 (if fX p then 0 else 2)]):=by
 have an:=bE;refine aV.bl al Tryz.func100 C C fun s I=>?_
 have aD:=Yq p aF;have hw:=NF p aF;unfold cD cI at *;cases ec:fX p with
 | false=>
  rw [ec] at aD;unfold N0
  repeat (first|(refine TS I ?_;clear I;intro I)|refine ae.dZ al I rfl rfl rfl rfl rfl rfl rfl (fun cB I=>?_)|(refine p0 ?_))
  exact Fin.cE I (uY C C (bp.get a' I) C C) aT
 | true=>
  rw [ec] at aD;have ac3:(fG 0 p.cm).length≤40:=(vr ec).bm;have hw:=hw ag;unfold eI eX at *
  repeat (first|(refine TT I ?_;clear I;intro I)|refine ae.dZ al I rfl rfl rfl rfl rfl rfl rfl (fun cB I=>?_)|(refine p0 ?_))
  exact Fin.cE I (uY C C (bp.get a' I) C C) aT
mutual
theorem N1:∀ (f:av) (w:bz) (d:Nat) (k:Int),(e2 w d k f).1=true→0≤(e2 w d k f).2∧((kp f).length:Int)+(e2 w d k f).2≤k
  | .mk o a p c n ks,w,d,k,h=>by
    rw [e2] at h ⊢;split at h
    · cases h
    · rename_i aA
      rw [d7 aA];split at h
      · rename_i aB
        rw [f7 aB];have ky:0≤k-1:=by
          simp only [ah5,g6,not_or] at aA;omega
        obtain ⟨aa,ad⟩:=N2 ks w (d-1) (k-1) ky h;refine ⟨aa,?_⟩;rw [kp];split
        · simp only [i5,ag0];omega
        · omega
      · cases h
theorem N2:∀ (l:List av) (w:bz) (d:Nat) (k:Int),0≤k→(ha w d k l).1=true→0≤(ha w d k l).2∧((mU l).length:Int)+(ha w d k l).2≤k
  | [],_,_,_,aA,_=>by rw [ha,mU];exact ⟨aA,by simp⟩
  | x::r,w,d,k,aA,h=>by
    rw [ha] at h ⊢;split at h
    · rename_i ab
      rw [f7 ab,mU,f9];obtain ⟨aa,ad⟩:=N1 x w d k ab;obtain ⟨aj,a8⟩:=N2 r w d _ aa h;exact ⟨aj,by push_cast;omega⟩
    · cases h
end
theorem N3 {w:bz} {f:av} (h:ig w f=true):(kp f).length≤24:=by
 have:=N1 f w 12 24 h;omega
mutual
theorem H8:∀ (f:av) (w:bz),gy w f=true→∀ x∈kp f,gy w x=true∧x.cU=true
  | .mk o a p c n ks,w,h,x,ab=>by
    rw [kp] at ab;split at ab
    · rename_i aC
      rw [t6] at ab;subst ab;exact ⟨h,aC⟩
    · rw [gy,f4] at h
      exact N4 ks w h.2 x ab
theorem N4:∀ (l:List av) (w:bz),j5 w l=true→∀ x∈mU l,gy w x=true∧x.cU=true
  | [],_,_,x,ab=>by cases ab
  | y::r,w,h,x,ab=>by
    rw [j5,f4] at h;rw [mU] at ab;rcases ae2.1 ab with ab|ab
    · exact H8 y w h.1 x ab
    · exact N4 r w h.2 x ab
end
theorem y' {w:bz} {f:av} (h:gy w f=true) (aC:f.cU=true):f.path.length≤2:=by
 rw [oC,f4] at h;have h:=h.1;unfold hM at h;rw [aC] at h;simp only [f4,ag5,g6] at h;exact h.2.2.2.2.2.1
theorem Ys (l:List av) (f:av):(j8 l f).length≤l.length+1:=by
 unfold j8;split
 ·omega
 ·simp
theorem N5 {l:List av} {f x:av} (h:x∈j8 l f):x∈l∨x=f:=by
 unfold j8 at h;split at h
 ·exact .inl h
 ·rcases ae2.1 h with h|h
  ·exact .inl h
  ·exact .inr (t6.1 h)
theorem H9 {p:bN}:∀ {l:List gN} {out o:List Int},nY p l out=some o→∀ m∈l,sq p m=true
  | x::r,out,o,h,m,hm=>by
    rw [nY] at h;split at h
    · rename_i ab
      cases ar:visitM p (tR x.kind) 12 x.node (p.dt.getD x.gen.toNat 0) out with
      | none=>rw [ar] at h;cases h
      | some bT=>
        rw [ar] at h;rcases ae8.1 hm with rfl|hm
        · exact ab
        · exact H9 (l:=r) h m hm
    · cases h
theorem Ec {p:bN} (h:fX p=true):po p=true∧p6 p=true∧∃ o,nY p p.methods (H1 p.nodes.length (-1))=some o:=by
 unfold fX nZ at h;split at h
 ·rename_i aD
  rw [f4] at aD;refine ⟨aD.1,aD.2,?_⟩;cases hm:nY p p.methods (H1 p.nodes.length (-1)) with
  | none=>rw [hm] at h;cases h
  | some o=>exact ⟨o,rfl⟩
 ·cases h
theorem BI {p:bN} (h:fX p=true) {m:gN} (hm:m∈p.methods):ig (bY p) m.fact=true:=by
 obtain ⟨-,-,o,ai⟩:=Ec h;have:=H9 ai m hm;unfold sq at this;simp only [f4] at this;exact this.2.2.2.2.1
theorem vt {p:bN} (h:fX p=true):p.methods.length≤16∧p.dt.length≤8:=by
 obtain ⟨-,aC,-⟩:=Ec h;unfold p6 at aC;simp only [f4,g6] at aC;exact ⟨aC.2.1,aC.1⟩
def kr (w:bz) (l:List av):Prop:=∀ x∈l,gy w x=true∧x.cU=true
theorem N6 {w:bz} (gen:Int):∀ (cZ l:List av),kr w l→kr w cZ→kr w (cZ.foldl j8 l)∧(cZ.foldl j8 l).length≤l.length+cZ.length
  | [],l,h,_=>⟨h,g7 _⟩
  | x::r,l,h,aO=>by
    have aa:kr w (j8 l x):=fun y ax=>by
      rcases N5 ax with ax|rfl
      · exact h y ax
      · exact aO _ i6
    obtain ⟨ad,aj⟩:=N6 (w:=w) gen r (j8 l x) aa (fun y ax=>aO y (i0 _ ax));have:=Ys l x;exact ⟨ad,by rw [ah4,i5];omega⟩
theorem N7 {p:bN} (aF:fX p=true) (gen:Int):∀ (ms:List gN) (l:List av),(∀ m∈ms,m∈p.methods)→kr (bY p) l→kr (bY p) (ms.foldl (ld gen) l)∧(ms.foldl (ld gen) l).length≤l.length+24*ms.length
  | [],l,_,h=>⟨h,g7 _⟩
  | m::r,l,hm,h=>by
    have aX:=BI aF (hm m i6);have aa:kr (bY p) (ld gen l m)∧(ld gen l m).length≤l.length+24:=by
      unfold ld;split
      · obtain ⟨ad,aj⟩:=N6 (w:=bY p) gen (kp m.fact) l h (H8 m.fact _ (sm _ _ _ _ aX))
        have:=N3 aX;exact ⟨ad,by omega⟩
      · exact ⟨h,by omega⟩
    obtain ⟨a8,bB⟩:=N7 aF gen r (ld gen l m) (fun x ab=>hm x (i0 _ ab)) aa.1;exact ⟨a8,by rw [ah4,i5];omega⟩
theorem N8 {p:bN} (aF:fX p=true) (gen:Int):kr (bY p) (cy p gen)∧(cy p gen).length≤384:=by
 obtain ⟨aa,ad⟩:=N7 aF gen p.methods [] (fun _ h=>h) (fun _ h=>by cases h);have:=(vt aF).1;exact ⟨aa,by unfold cy;simp only [ag0] at ad;omega⟩
def eu (p:bN) (n:Int) (cZ vs:ah) (an cC:Nat):List ah:=[.aG 3 (p.cm.map jg) .bd,.int .i64 p.bm,bj p.dt,.aG 9 (p.methods.map mJ) .bd,.aG 3 (p.nodes.map jh) .bd,.int .i64 p.main,.int .i64 n,dd (bY p).ps,bj (bY p).owner,cZ,vs,.map an,.map cC]
def n5 (p:bN) (n:Int) (cd an cC:Nat) (bt:yY) (l:List av):bb:=(.own cd,.box 110 (eu p n (ry bt l) (.aG 0 [] .nil) an cC))::(.own an,.map [])::(.own cC,.map [])::qg bt
def ei (l:List av):ah := .aG 6 (l.map av.cj) .bd
def Yt (p:bN) (n:Int) (o:eB) (K:bb):Prop:=
 (fq p n=0∧∃ cd an cC,o = .ret (.cr [.ptr cd 0,.int .i64 0])∧K=[(.own cd,.box 110 (eu p n (ei (cy p n)) (.aG 0 [] .nil) an cC)),(.own an,.map []),(.own cC,.map [])]) ∨
 (fq p n≠0∧(∃ v,o = .ret (.cr [v,.int .i64 (fq p n)]))∧K=[])
theorem N9 {cs:List ah} {l:List av} {x:av} {zc:List ah} (bG:zc.length=6) (h:cs.take ((l.length+1)*6)=(l.map av.cells).flatten++zc) :
  (eV (l.length*6) x.cells cs).length=cs.length∧(eV (l.length*6) x.cells cs).take ((l.length+1)*6)=(l.map av.cells).flatten++x.cells:=by
 have aa:=Np (sz:=6) (cs:=cs) (xss:=l.map av.cells++[zc]) (n:=l.length+1) (j:=l.length) (ys:=zc) (ys':=x.cells) (fun c aD=>by
  rcases ae2.1 aD with aD|aD
  ·exact HL l c aD
  ·rw [t6.1 aD];exact bG) (by rw [h];simp) (by rw [ae' bc];simp) C
 refine ⟨aa.1,aa.2.trans ?_⟩;rw [al6 _ _ bc];simp
theorem BJ (p:bN) (aF:gx p) (n:Int):bI d0 58 [cD p,.int .i64 n] [] (Yt p n):=by
 have an:=bE;have hw:=H7 p aF;have j2:=aF.dt;have hV:=aF.y5;have e0:fq p n=fq p n:=rfl
 conv at e0=>rhs;unfold fq
 refine bI.bl al Tryz.func58 C C fun s I=>?_
 unfold cD cI at *;cases ec:fX p with
 | false=>
  rw [ec] at hw;simp only [af7,ah9] at hw;rw [ec,f6,d7 bc] at e0;refine ft ?_;exact Fin.bC I C aT .nil (.inr ⟨by omega,⟨_,by rw [e0]⟩,rfl⟩)
 | true=>
 rw [ec,f7 C,f7 C] at hw;rw [ec,f5] at e0;have H':lf p n=(decide (n≥0)&&decide (n<(p.dt.length:Int))):=rfl;obtain ⟨vu,N'⟩:=vt ec;refine ft ?_;by_cases zJ:n<0
 ·refine ae.dK 23 C (g8 zJ) ?_
  rw [H',show decide (n≥0)=false by simp;omega,f6,d7 bc] at e0;refine et ?_;exact Fin.bC I C aT .nil (.inr ⟨by omega,⟨_,by rw [e0]⟩,rfl⟩)
 refine ae.dh 23 C (i8 zJ) ?_;refine gj ?_;refine af.cond C (fun x'=>?_) (fun x'=>?_)
 ·rw [H',show decide (n<(p.dt.length:Int))=false by simp [bj] at x' ⊢;omega,ak5,d7 bc] at e0
  refine gE ?_;exact Fin.bC I C aT .nil (.inr ⟨by omega,⟨_,by rw [e0]⟩,rfl⟩)
 rw [H',show decide (n<(p.dt.length:Int))=true by simp [bj] at x' ⊢;omega,show decide (n≥0)=true by simp;omega,f7 (by rfl)] at e0;refine eh ?_;refine ae.r8 I C C C C (fun dU I=>?_);refine ae.r8 I C C C C (fun cC I=>?_);refine cF C ?_;refine ae.jJ I C C C C C C (fun cd I=>?_);refine ft ?_;refine af.ck [1,8,38,39] C I (σ:=Nat×yY×List av) (fun q=>[(40,.int .i64 (q.1:Int))]) (fun q=>n5 p n cd dU cC q.2.1 q.2.2)
  (fun q=>q.1≤p.methods.length∧HK q.2.1 q.2.2∧kr (bY p) q.2.2∧q.2.2.length≤24*q.1∧cy p n=(p.methods.drop q.1).foldl (ld n) q.2.2) (fun q=>p.methods.length-q.1) (0,none,[])
  ⟨g9 _,rfl,(fun x h=>absurd h List.not_mem_nil:kr (bY p) []),g9 _,rfl⟩ (cK C) (by simp only [n5,qg,eu,ry];exact ba) ?_
 rintro ⟨j,bt,l⟩ ⟨aI,db,cx,q3,aw⟩ I
 try simp only at aI db cx q3 aw I ⊢
 refine cf ?_;refine af.cond C (fun az=>?_) (fun a7=>?_);rotate_left
 ·have a7:j=p.methods.length:=by simp at a7;omega
  rw [eE ag,av8] at aw;subst aw;unfold n5 at I ⊢;rcases bt with _|⟨g,cap,cs⟩
  ·have bo:cy p n=[]:=db
   have jG:ei (cy p n) = .aG 6 [] .bd:=by rw [bo];rfl
   refine af.rz I (eu p n (ei (cy p n)) (.aG 0 [] .nil) dU cC) .here (by
    rw [jG];unfold eu
    repeat (first|exact cS.nil|refine cS.cons (by first|exact aT|exact aZ.empty) ?_)) (fun I=>?_)
   unfold ei at I ⊢;refine ct I ?_;intro I;refine af.cond C (fun ia=>?_) (fun ia=>?_)
   ·have ia:¬ (cy p n).length≤7:=by simp [bo] at ia ⊢ <;> omega
    rw [d7 ia] at e0;refine gE ?_;exact Fin.bC I C aT .nil (.inr ⟨by omega,⟨_,by rw [e0]⟩,rfl⟩)
   ·have ia:(cy p n).length≤7:=by simp [bo] at ia ⊢ <;> omega
    rw [f7 ia] at e0;refine bK ?_;exact Fin.bC I C aT (by simp only [eu];exact ba) (.inl ⟨e0,cd,dU,cC,rfl,rfl⟩)
  ·obtain ⟨k4,kZ,BK⟩:=db
   unfold qg eu ry at I ⊢;refine af.Bl I 9 .here (.there (.there .here)) C BK (f8 _) (HL _) kZ ag (fun I=>?_);have jG:((cy p n).map av.cells).map ah.agg=(cy p n).map av.cj:=by
    rw [at9];exact List.map_congr_left (fun x _=>(av.cG x).symm)
   rw [jG] at I ⊢
   try unfold ei at I
   refine ct I ?_;intro I;refine af.cond C (fun ia=>?_) (fun ia=>?_)
   ·have ia:¬ (cy p n).length≤7:=by simp [Nat.not_le] at ia ⊢ <;> omega
    rw [d7 ia] at e0;refine gE ?_;exact Fin.bC I C aT .nil (.inr ⟨by omega,⟨_,by rw [e0]⟩,rfl⟩)
   ·have ia:(cy p n).length≤7:=by simp [Nat.not_le] at ia ⊢ <;> omega
    rw [f7 ia] at e0;refine bK ?_;exact Fin.bC I C aT (by simp only [eu];exact ba) (.inl ⟨e0,cd,dU,cC,rfl,rfl⟩)
 have az:j<p.methods.length:=by simpa using az
 obtain ⟨m,ab,ch⟩:=b7 (f:=mJ) az;have fs:=d6 ab;have cc:=aF.facts m fs;have vw:=BI ec fs;have k1:=sm _ _ _ _ vw;have jM:=N3 vw;have Ia:=H8 m.fact _ k1;have za:=WX m.fact;have ox:=WW m.fact ag;rw [av.cG] at za;unfold av.cells at za ox;rw [drop_cons ab,ah4] at aw;unfold mJ oA at ch;refine ft ?_;refine af.cond C (fun aq=>?_) (fun aq=>?_)
 ·have aq:m.gen≠n:=by simpa using aq
  rw [show ld n l m=l by unfold ld;rw [d7 aq]] at aw;refine ew ?_;exact bD.mk (j+1,bt,l) I ⟨az,db,cx,by show l.length≤24*(j+1);omega,aw⟩ cA (aJ.all _) ql
 have aq:m.gen=n:=by simpa using aq
 rw [show ld n l m=(kp m.fact).foldl j8 l by unfold ld;rw [f7 aq]] at aw;refine c5 ?_;refine af.Gv I C dV ox .nil (fun rem K=>∃ rB fH,HK rB fH∧kr (bY p) fH∧fH.length+rem.length≤24*(j+1)∧(∀ x∈rem,gy (bY p) x=true∧x.cU=true)∧(kp m.fact).foldl j8 l=rem.foldl j8 fH∧K=n5 p n cd dU cC rB fH) (fun _ _=>False) (fun _ _=>False) ⟨bt,l,db,cx,by omega,Ia,rfl,rfl⟩ ?_ ?_ (fun _ _ h=>h.elim) (fun _ _ h=>h.elim);rotate_left
 ·rintro K ⟨rB,fH,xw,Ia,eQ,-,kN,rfl⟩ I
  rw [kN,av8] at aw;refine fV ?_;exact bD.mk (j+1,rB,fH) I ⟨az,xw,Ia,by show fH.length≤24*(j+1);simpa using eQ,aw⟩ cA (aJ.all _) ql
 rintro s₁ x rem K ⟨rB,fH,xw,Ed,eQ,qn,kN,rfl⟩ I;have Ib:=qn x i6;have Oa:=y' Ib.1 Ib.2;have ua:=fun f11=>W3 rB fH ag xw f11 x ag (fun y ax=>by have:=y' (Ed y ax).1 (Ed y ax).2;omega)
 rw [ah4] at kN;rw [av.cG];unfold av.cells;have b9:=AZ x.path .bd ag;have BL:j8 fH x=if fH.any (fun y=>hv y x) then fH else fH++[x]:=rfl
 have Ee:kr (bY p) (fH++[x]):=fun y ax=>by
  rcases ae2.1 ax with ax|ax
  ·exact Ed y ax
  ·rw [t6.1 ax];exact Ib
 have Ef:(fH++[x]).length+rem.length≤24*(j+1):=by
  simp only [i5,f9,ag0] at eQ ⊢;omega
 have nN:(fH++[x]).map av.cells=fH.map av.cells++[x.cells]:=by simp
 have Eg:((fH++[x]).map av.cells).flatten=(fH.map av.cells).flatten++x.cells:=by rw [nN];simp
 have ub:(fH++[x]).length=fH.length+1:=by simp
 unfold n5 at I ⊢;rcases rB with _|⟨g,cap,cs⟩
 all_goals
  simp only [qg,ry,oK,av.cells] at ua;simp only [qg,ry,eu] at I ⊢
 ·have bo:fH=[]:=xw
  subst bo
  repeat (first|(refine Gk I ?_;clear I;intro I)|refine ae.dZ al I rfl rfl rfl rfl rfl rfl rfl (fun cB I=>?_))
  refine ae.b4 rfl rfl rfl rfl rfl (ua cB) I ba ?_ (fun _ _ ⟨h,_⟩ _=>by cases h);rintro _ _ ⟨⟨⟩,rfl⟩ I;simp only [f0,ab'] at I ⊢;have n6:([]:List av).any (fun y=>hv y x)=false:=rfl;refine ct I ?_;intro I;refine af.r6 al mixed C (bf.run C ?_);refine bf.dZ 0 al I C C C C C C C C C (fun Yu I=>?_);refine bf.run C ?_;refine bf.many C (hU.c (kh.Dd (i:=1) C C C (a6.cX al I C C C C C C C a' C (X:=fun _ _=>False)) ?_ (fun _ _ h=>False.elim h)) (hU.c (kh.Dd (i:=2) C C C (a6.cX al I C C C C C C C a' C (X:=fun _ _=>False)) ?_ (fun _ _ h=>False.elim h)) hU.n))
  ·rintro _ _ ⟨rfl,I⟩
   refine bf.run C ?_;refine bf.cX 2 al I C C C C C C C C C C C a' b5 (fun I=>?_);refine bf.run C ?_;refine bf.eC 3 al I C C C C C C C C a' b5 ?_;refine bf.run C ?_;refine bf.done C ?_;refine uT ?_;refine af.qV (dE [(cd,_),(cB,_)]) al mixed C (bq.run (dE.two (bp.get a' I) (bp.get a' I)) C ?_);refine bq.ov 4 al (dE.two (bp.get a' I) (bp.get a' I)) C C C C C C C C (fun _ h=>dE.fst h) b5 ?_;refine bq.ov 5 al (dE.two (bp.get a' I) (bp.get a' I)) C C C C C C C C (fun _ h=>dE.snd h) b5 ?_;refine bq.run (dE.two (bp.get a' I) (bp.get a' I)) C ?_;refine bq.sK 7 al I C C C C C C C C C eH C C C C C C C dV (fun dm gw gg I _=>(dE.two (bp.get a' I) (bp.get a' I))) (fun dm gw gg cW c6 eW I=>?_);refine bq.run (dE.two (bp.get a' I) (bp.get a' I)) C ?_;refine bq.cX 10 al I C C C C C C C C C C C a' b5 (fun _ => .inr C) (fun I=>?_);refine bf.done C ?_;refine fV ?_;exact At.mk (n5 p n cd dU cC (some (dm,gw,gg)) ([]++[x])) I (by simp only [n5,qg,ry,eu,ub];exact ba) ⟨some (dm,gw,gg),[]++[x],⟨cW,vf,by rw [Eg];exact eW⟩,Ee,Ef,fun y ax=>qn y (i0 _ ax),by rw [kN,BL,n6];rfl,rfl⟩
  ·rintro _ _ ⟨rfl,I⟩
   refine bf.run C ?_;refine bf.cX 1 al I C C C C C C C C C C C a' b5 (fun I=>?_);refine bf.run C ?_;refine bf.eC 3 al I C C C C C C C C a' b5 ?_;refine bf.run C ?_;refine bf.done C ?_;refine ct I ?_;intro I;refine ae.D1 al C C C C C C C C C C ?_;refine ae.sK al I C C C C C C C eH C C C C C C C dV (fun dm gw gg cW c6 eW I=>?_);refine ct I ?_;intro I;refine ae.gF al ([]:List av).length C C C C C C C C C C bc ?_;refine ae.mK al I _ C C C C C C C C C a' (by rw [cW];show ([]:List av).length*6+6≤gw*6;simp only [ag0] at *;omega) C (fun I=>?_);obtain ⟨b6,bW⟩:=N9 (x:=x) (l:=([]:List av)) (cs:=gg) (zc:=_) rfl eW;refine hC ?_;exact At.mk (n5 p n cd dU cC (some (dm,gw,(eV (([]:List av).length*6) x.cells gg))) ([]++[x])) I (by simp only [n5,qg,ry,eu,ub];exact ba) ⟨some (dm,gw,(eV (([]:List av).length*6) x.cells gg)),[]++[x],⟨b6.trans cW,vf,by rw [Eg];exact bW⟩,Ee,Ef,fun y ax=>qn y (i0 _ ax),by rw [kN,BL,n6];rfl,rfl⟩
 ·obtain ⟨k4,kZ,BK⟩:=xw
  repeat (first|(refine Gk I ?_;clear I;intro I)|refine ae.dZ al I rfl rfl rfl rfl rfl rfl rfl (fun cB I=>?_))
  refine ae.b4 rfl rfl rfl rfl rfl (ua cB) I ba ?_ (fun _ _ ⟨h,_⟩ _=>by cases h);rintro _ _ ⟨⟨⟩,rfl⟩ I;simp only [f0,ab'] at I ⊢;cases n6:fH.any (fun y=>hv y x) with
  | true=>
   refine bK ?_;exact At.mk (n5 p n cd dU cC (some (g,cap,cs)) fH) I (by simp only [n5,qg,ry,eu];exact ba) ⟨some (g,cap,cs),fH,⟨k4,kZ,BK⟩,Ed,by simp only [i5] at eQ;omega,fun y ax=>qn y (i0 _ ax),by rw [kN,BL,n6];rfl,rfl⟩
  | false=>
  refine ct I ?_;intro I;refine af.r6 al mixed C (bf.run C ?_);refine bf.dZ 0 al I C C C C C C C C C (fun Yu I=>?_);refine bf.run C ?_;refine bf.many C (hU.c (kh.Dd (i:=1) C C C (a6.cX al I C C C C C C C a' C (X:=fun _ _=>False)) ?_ (fun _ _ h=>False.elim h)) (hU.c (kh.Dd (i:=2) C C C (a6.cX al I C C C C C C C a' C (X:=fun _ _=>False)) ?_ (fun _ _ h=>False.elim h)) hU.n))
  ·rintro _ _ ⟨rfl,I⟩
   refine bf.run C ?_;refine bf.cX 2 al I C C C C C C C C C C C a' b5 (fun I=>?_);refine bf.run C ?_;refine bf.eC 3 al I C C C C C C C C a' b5 ?_;refine bf.run C ?_;refine bf.done C ?_;refine uT ?_;refine af.qV (dE [(cd,_),(cB,_)]) al mixed C (bq.run (dE.two (bp.get a' I) (bp.get a' I)) C ?_);refine bq.ov 4 al (dE.two (bp.get a' I) (bp.get a' I)) C C C C C C C C (fun _ h=>dE.fst h) b5 ?_;refine bq.ov 5 al (dE.two (bp.get a' I) (bp.get a' I)) C C C C C C C C (fun _ h=>dE.snd h) b5 ?_;refine bq.run (dE.two (bp.get a' I) (bp.get a' I)) C ?_;refine bq.sL 7 al I C C C C C C C C C eH C C C C a' k4 kZ C C C C (by show (_+1)*80≤_;omega) ag (fun dm gw gg I _=>(dE.two (bp.get a' I) (bp.get a' I))) (fun dm gw gg cW c6 eW I=>?_);refine bq.run (dE.two (bp.get a' I) (bp.get a' I)) C ?_;refine bq.cX 10 al I C C C C C C C C C C C a' b5 (fun _ => .inr C) (fun I=>?_);refine bf.done C ?_;refine fV ?_;exact At.mk (n5 p n cd dU cC (some (dm,gw,gg)) (fH++[x])) I (by simp only [n5,qg,ry,eu,ub];exact ba) ⟨some (dm,gw,gg),fH++[x],⟨by rw [ub] at *;exact cW,by rw [ub];exact c6,by rw [Eg,ub,← BK];exact eW⟩,Ee,Ef,fun y ax=>qn y (i0 _ ax),by rw [kN,BL,n6];rfl,rfl⟩
  ·rintro _ _ ⟨rfl,I⟩
   refine bf.run C ?_;refine bf.cX 1 al I C C C C C C C C C C C a' b5 (fun I=>?_);refine bf.run C ?_;refine bf.eC 3 al I C C C C C C C C a' b5 ?_;refine bf.run C ?_;refine bf.done C ?_;refine ct I ?_;intro I;refine ae.tI al C C C C C C C ?_;skip;refine ae.D1 al C C C C C C C C C C ?_;refine ae.sL al I C C C C C C C eH C C C C a' k4 kZ C C C C (by show (_+1)*80≤_;omega) ag (fun dm gw gg cW c6 eW I=>?_);refine ct I ?_;intro I;refine ae.gF al fH.length C C C C C C C C C C bc ?_;refine ae.mK al I _ C C C C C C C C C a' (by rw [cW];show fH.length*6+6≤gw*6;simp only [ag0] at *;omega) C (fun I=>?_);obtain ⟨b6,bW⟩:=N9 (x:=x) (l:=fH) (cs:=gg) (zc:=_) rfl (by rw [← BK];exact eW);refine hC ?_;exact At.mk (n5 p n cd dU cC (some (dm,gw,(eV (fH.length*6) x.cells gg))) (fH++[x])) I (by simp only [n5,qg,ry,eu,ub];exact ba) ⟨some (dm,gw,(eV (fH.length*6) x.cells gg)),fH++[x],⟨b6.trans cW,by rw [ub];exact c6,by rw [Eg,ub];exact bW⟩,Ee,Ef,fun y ax=>qn y (i0 _ ax),by rw [kN,BL,n6];rfl,rfl⟩
def ey (p:bN) (n:Int) (cZ vs:ah) (an cC cd:Nat):bV×dy:=(.own cd,.box 110 (eu p n cZ vs an cC))
theorem Yv (x f:av) (ab:x.path.length<bx) (aX:f.path.length<bx):ej d0 (.func 175 [] [.bA f.cells 0]) [x.cj] (.bool (hv x f)):=by
 have aa:=Ml x f ab aX;have aa:aV d0 104 [x.cj,f.cj] (.bool (hv x f)):=aa;refine ej.fm (first:=[]) (cap:=[.bA f.cells 0]) ?_;refine aV.bl al Tryz.func175 C C fun s I=>?_
 rw [av.cG,av.cG] at aa;rw [av.cG];unfold av.cells at *;refine cl ?_;exact br I
def BM (l:List av) (f:av):Prop:=∀ x∈kp f,l.any (fun y=>hv y x)=true
theorem Ob:∀ {ks:List av} {k x:av},k∈ks→x∈kp k→x∈mU ks
  | y::r,k,x,h,ab=>by
    rw [mU];rcases ae8.1 h with rfl|h
    · exact ai7 _ ab
    · exact an8 _ (Ob h ab)
theorem BM.Ic {l:List av} {f k:av} (h:BM l f) (aC:f.cU=false) (aA:k∈f.kids):BM l k:=fun x ab=>h x (by
 rw [Bj,aC,d7 bc];exact Ob aA ab)
theorem Yw (p:bN) (n:Int) (l:List av) (vs:ah) (an cC cd:Nat) (w:bz) (gB:l.length≤7) (cx:kr w l) (v:Nat) (ar:v<2^63):∀ (k:Nat) (f:av),f.size≤k→gy w f=true→BM l f →
    bI d0 128 [.ptr cd 0,f.cj,.int .i64 (v:Int)] [ey p n (ei l) vs an cC cd] (fun o K=>o = .ret (.bool (ru l v f))∧K=[ey p n (ei l) vs an cC cd]):=by
  have oo:bx=1099511627776:=rfl;intro k
  induction k with
  | zero=>intro x h;have:=x.size_eq;omega
  | succ k aW=>
    intro f aB aq fo;have iu:=f.size_eq;have jB:=Nd l v f;have Yx:=aq;rw [oC,f4] at aq;obtain ⟨ns,kK⟩:=aq;refine bI.bl al Tryz.func128 C C fun s I=>?_
    rw [av.cG];unfold ey eu ei at *;rcases A3 ns with ⟨aa,ad⟩|⟨aC,ad,aa⟩|⟨aa,x,ad⟩|⟨aa,x,y,ad⟩
    · rw [aa,f7 C] at jB
      rw [jB];unfold av.cells;rw [aa];refine bK ?_;exact Fin.bC I C aT (aJ.all _) ⟨rfl,rfl⟩
    · have b1:f.op=2∨f.op=3∨f.op=4:=by unfold av.cU at aC;simp at aC;omega
      have sV:=y' Yx aC;have n6:=fo f (by rw [Bj,aC,f7 C];exact t6.2 C);obtain ⟨i,aS⟩:∃ i,l.findIdx? (fun x=>hv x f)=some i:=by
        cases h:l.findIdx? (fun x=>hv x f) with
        | some i=>exact ⟨i,rfl⟩
        | none=>
          rw [ai0] at h;obtain ⟨z,bG,CF⟩:=af4.1 n6;rw [h z bG] at CF;cases CF
      have me:i<l.length:=(ag9.1 aS).1;have xE:=UE (.func 175 [] [.bA f.cells 0]) (fun x=>hv x f) l ag (fun x ab=>Yv x f (by have:=y' (cx x ab).1 (cx x ab).2;omega) ag);rw [aS] at xE;simp only at xE;have jB:ru l v f=v.testBit i:=by
        rw [jB,d7 ag,d7 ag,d7 ag,d7 ag,aS]
      rw [jB,← DW];unfold av.cells at xE ⊢;rcases b1 with h|h|h
      all_goals
        rw [h] at xE ⊢;refine hq I ?_;intro I;refine ae.shr _ C C C C C C ag (u0 ag) ?_;refine ae.bits _ C C C C C C (Dq (n:=1) (Nat.lt_of_le_of_lt (Nat.shiftRight_le v i) ar) ag) ?_;refine ep ?_;exact Fin.bC I C aT (aJ.all _) ⟨rfl,rfl⟩
    · have aC:f.cU=false:=by unfold av.cU;rw [aa];rfl
      have ab:=av.h5 (l:=f.kids) (x:=x) km;have i1:=aW x ag (kl kK km) (fo.Ic aC km);have b6:([x].map av.cj)[0]? = some (.agg x.cells):=by rw [← av.cG];rfl
      rw [aa,d7 ag,f7 C,ad,Bk l v 0 [x] x C] at jB;rw [jB];rw [av.cG] at i1;unfold av.cells;rw [aa,ad];refine bK ?_;refine ae.b4 rfl rfl rfl rfl rfl i1 I (aJ.all _) ?_ (fun _ _ ⟨h,_⟩ _=>by cases h);rintro _ _ ⟨⟨⟩,rfl⟩ I;rw [d9] at I ⊢;refine fe ?_;exact Fin.bC I C aT (aJ.all _) ⟨rfl,rfl⟩
    · have aC:f.cU=false:=by unfold av.cU;rcases aa with aa|aa<;>rw [aa]<;>rfl
      have ab:=av.h5 (l:=f.kids) (x:=x) km;have ax:=av.h5 (l:=f.kids) (x:=y) ri;have i1:=aW x ag (kl kK km) (fo.Ic aC km);have i2:=aW y ag (kl kK ri) (fo.Ic aC ri);have b6:([x,y].map av.cj)[0]? = some (.agg x.cells):=by rw [← av.cG];rfl
      have bW:([x,y].map av.cj)[1]? = some (.agg y.cells):=by rw [← av.cG];rfl
      rw [av.cG] at i1 i2;rw [ad,Bk l v 0 [x,y] x C,Bk l v 1 [x,y] y C] at jB;unfold av.cells;rw [ad];rcases aa with aa|aa
      all_goals
        rw [aa] at jB ⊢;cases vb:ru l v x with
        | true=>
          rw [vb] at jB i1;simp at jB;rw [jB];refine bK ?_;refine ae.b4 rfl rfl rfl rfl rfl i1 I (aJ.all _) ?_ (fun _ _ ⟨h,_⟩ _=>by cases h);rintro _ _ ⟨⟨⟩,rfl⟩ I;rw [d9] at I ⊢;refine bK ?_
          first
            | exact Fin.bC I C aT (aJ.all _) ⟨rfl,rfl⟩
            | (refine ae.b4 rfl rfl rfl rfl rfl i2 I (aJ.all _) ?_ (fun _ _ ⟨h,_⟩ _=>by cases h)
               rintro _ _ ⟨⟨⟩,rfl⟩ I
               rw [d9] at I ⊢
               refine fe ?_
               exact Fin.bC I C aT (aJ.all _) ⟨rfl,rfl⟩)
        | false=>
          rw [vb] at jB i1;simp at jB;rw [jB];refine bK ?_;refine ae.b4 rfl rfl rfl rfl rfl i1 I (aJ.all _) ?_ (fun _ _ ⟨h,_⟩ _=>by cases h);rintro _ _ ⟨⟨⟩,rfl⟩ I;rw [d9] at I ⊢;refine bK ?_
          first
            | exact Fin.bC I C aT (aJ.all _) ⟨rfl,rfl⟩
            | (refine ae.b4 rfl rfl rfl rfl rfl i2 I (aJ.all _) ?_ (fun _ _ ⟨h,_⟩ _=>by cases h)
               rintro _ _ ⟨⟨⟩,rfl⟩ I
               rw [d9] at I ⊢
               refine fe ?_
               exact Fin.bC I C aT (aJ.all _) ⟨rfl,rfl⟩)
theorem zb (gen:Int) (l:List av) (v:Nat):∀ (ms:List gN) (i:Nat),(pA gen l v i ms).length≤ms.length
  | [],_=>g7 _
  | m::r,i=>by
    have:=zb gen l v r (i+1);rw [pA];split<;>simp<;>omega
def BN (p:bN) (n:Int) (l:List av):Prop:=∀ m∈p.methods,m.gen=n→BM l m.fact
theorem Oc (p:bN) (aF:gx p) (ec:fX p=true) (n:Int) (l:List av) (vs:ah) (an cC cd:Nat) (gB:l.length≤7) (cx:kr (bY p) l) (fJ:BN p n l) (v:Nat) (ar:v<2^63) :
  bI d0 81 [.ptr cd 0,.int .i64 (v:Int)] [ey p n (ei l) vs an cC cd] (fun o K=>o = .ret (bj (dp p n l v))∧K=[ey p n (ei l) vs an cC cd]):=by
 have oo:bx=1099511627776:=rfl;obtain ⟨vu,N'⟩:=vt ec;have Yy:=fun f aa ad=>Yw p n l vs an cC cd (bY p) gB cx v ar f.size f (g7 _) aa ad
 refine bI.bl al Tryz.func81 C C fun s I=>?_
 unfold ey eu at *;refine hq I ?_;intro I;refine af.jw I 3 1 0 fun I=>?_
 refine af.ck [0,1,12,13] C I (σ:=Nat×List Int×bV) (fun q=>[(14,.int .i64 (q.1:Int)),(5,.aG 1 (q.2.1.map bg) q.2.2)]) (fun q=>[(q.2.2,.row 3 1 q.2.1.length),ey p n (ei l) vs an cC cd]) (fun q=>q.1≤p.methods.length∧q.2.1.length≤q.1∧dp p n l v=q.2.1++pA n l v q.1 (p.methods.drop q.1)) (fun q=>p.methods.length-q.1) (0,[],.nil)
  ⟨g9 _,g7 _,rfl⟩ ⟨⟨_,rfl,aT⟩,⟨_,rfl,aZ.nil h4⟩,trivial⟩ (by simp only [ey,eu];exact ba) ?_
 rintro ⟨j,out,gm⟩ ⟨aI,gd,aw⟩ I;simp only [ey,eu] at aI gd aw I ⊢;refine cf ?_;refine af.cond C (fun az=>?_) (fun a7=>?_);rotate_left
 ·have a7:j=p.methods.length:=by simp at a7;omega
  rw [eE ag,pA,d9] at aw;rw [aw];refine ew ?_;exact Fin.bC (K:=[ey p n (ei l) vs an cC cd]) I C aZ.bd (by simp only [ey,eu];exact ba) ⟨rfl,rfl⟩
 have az:j<p.methods.length:=by simpa using az
 obtain ⟨m,ab,ch⟩:=b7 (f:=mJ) az;have fs:=d6 ab;rw [drop_cons ab,pA] at aw;unfold mJ oA at ch;by_cases aq:m.gen=n
 ·have cN:=Yy m.fact (sm _ _ _ _ (BI ec fs)) (fJ m fs aq)
  rw [av.cG] at cN;unfold av.cells at cN;rw [aq] at ch aw;rw [show decide (n=n)=true by simp,f5] at aw
  repeat (first|(refine wO I ?_;clear I;intro I)|refine ae.dZ al I rfl rfl rfl rfl rfl rfl rfl (fun cB I=>?_))
  refine af.mE I 7 cB C .here (fun I=>?_);refine af.q8 I cd (.there .here) al mixed C ?_;refine c5 ?_;refine aL.split 26 C (fun _=>?_) (fun h=>by simp at h);refine l5 ?_;refine aL.sN rfl rfl rfl rfl rfl rfl cN I ba (fun _ _ h=>by obtain ⟨-,rfl⟩:=h;exact ⟨_,.here⟩) ?_ (fun _ _ ⟨h,_⟩ _=>by cases h);rintro _ _ ⟨⟨⟩,rfl⟩ I;simp only [ab',f0] at I ⊢;cases m5:ru l v m.fact with
  | true=>
   rw [m5,f7 C] at aw;refine c5 ?_;refine ae.ho al I C C C C C C C eH C C C C C C C C a' ir lC ag (fun bT I=>?_);refine hC ?_;exact bD.mk (j+1,out++[(j:Int)],.own bT) I ⟨az,by simp;omega,by rw [aw];simp⟩ yr (by show aJ _ [(_,.row _ _ (out++[(j:Int)]).length),ey p n (ei l) vs an cC cd] _;rw [f9];exact (by simp only [ey,eu];exact ba)) ql
  | false=>
   rw [m5,d7 bc] at aw;refine ki ?_;exact bD.mk (j+1,out,gm) I ⟨az,by show out.length≤j+1;omega,aw⟩ cA (by simp only [ey,eu];exact ba) ql
 ·rw [show decide (m.gen=n)=false by simpa using aq,f6,d7 bc] at aw
  repeat (first|(refine wO I ?_;clear I;intro I)|refine ae.dZ al I rfl rfl rfl rfl rfl rfl rfl (fun cB I=>?_))
  refine af.mE I 7 cB C .here (fun I=>?_);refine af.q8 I cd (.there .here) al mixed C ?_;refine c5 ?_;refine aL.split 26 C (fun h=>absurd hx aq) (fun _=>?_);refine ki ?_;exact bD.mk (j+1,out,gm) I ⟨az,by show out.length≤j+1;omega,aw⟩ cA (by simp only [ey,eu];exact ba) ql
theorem BO {α:Type} {f:Nat→α→Bool}:∀ {l:List α} {k j:Nat},l8 f k l=some j→k≤j∧j<k+l.length∧∃ x,l[j-k]? = some x∧f j x=true
  | x::r,k,j,h=>by
    rw [l8] at h;split at h
    · rename_i aeh aI
      cases h;obtain ⟨aa,ad,y,aj,a8⟩:=BO aI;refine ⟨by omega,by rw [i5];omega,y,?_,a8⟩;rw [show j-k=(j-(k+1))+1 by omega];exact aj
    · split at h
      · cases h
        rename_i aX;exact ⟨g7 _,by rw [i5];omega,x,by rw [am'];rfl,aX⟩
      · cases h
theorem ny:∀ (l:List bs) (i:Nat),(bJ i l).1.length=l.length∧(bJ i l).2.length=l.length
  | [],i=>⟨rfl,rfl⟩
  | x::r,i=>by
    have:=ny r (i+1);rw [bJ];simp only [i5];omega
def Yz (n i:Nat) (l:List bs):Prop:=∀ k,k<l.length →
 ((i:Int)+k≤(bJ i l).1.getD k 0∧(bJ i l).1.getD k 0<n)∧((bJ i l).2.getD k default).atom=(l.getD k default).atom∧((bJ i l).2.getD k default).ms=(l.getD k default).ms ∧
 (((bJ i l).2.getD k default).atom≥0→(i:Int)+k<((bJ i l).2.getD k default).no∧((bJ i l).2.getD k default).no<n∧(i:Int)+k<((bJ i l).2.getD k default).yes∧((bJ i l).2.getD k default).yes<n)
theorem Ie {n:Nat}:∀ (l:List bs) (i:Nat),i+l.length=n→(∀ (k:Nat) (x:bs),l[k]? = some x→x.atom≥0→((i+k:Nat):Int)<x.no∧x.no<n∧((i+k:Nat):Int)<x.yes∧x.yes<n)→Yz n i l
  | [],_,_,_=>fun k aA=>absurd aA (an6 _)
  | x::r,i,aB,aX=>by
    have aW:=Ie (n:=n) r (i+1) (by rw [i5] at aB;omega) (fun k y ax=>by
      have:=aX (k+1) y (by simpa using ax)
      rwa [show i+(k+1)=i+1+k by omega] at this)
    have aC:=ny r (i+1);rw [i5] at aB;have bo:=aX 0 x C;intro k aA;cases k with
    | succ k=>
      have:=aW k (by rw [i5] at aA;omega);rw [bJ];simp only [av6];obtain ⟨⟨df,a2⟩,a3,a4,a5⟩:=this;refine ⟨⟨by push_cast at df ⊢;omega,a2⟩,a3,a4,fun h=>?_⟩;obtain ⟨gq,dm,mB,pE⟩:=a5 h;exact ⟨by push_cast at gq ⊢;omega,dm,by push_cast at mB ⊢;omega,pE⟩
    | zero=>
      have aO:x.atom≥0→(i:Int)<x.no∧x.no<n∧(i:Int)<x.yes∧x.yes<n:=fun h=>bo h
      have iC:∀ m:Int,(i:Int)<m→m<n→(i:Int)<(bJ (i+1) r).1.getD (m.toNat-(i+1)) 0∧(bJ (i+1) r).1.getD (m.toNat-(i+1)) 0<n:=fun m aa ad=>by
        have:=(aW (m.toNat-(i+1)) ag).1;omega
      rw [bJ];simp only [az8];refine ⟨?_,by split<;>rfl,by split<;>rfl,?_⟩
      · split
        · rename_i j aI
          obtain ⟨aa,ad,-⟩:=BO aI;omega
        · omega
      · split
        · rename_i h
          intro _;obtain ⟨gq,dm,mB,pE⟩:=aO h;have cW:=iC x.no gq dm;have c6:=iC x.yes mB pE;simp only;omega
        · rename_i h
          intro ad;exact absurd ad h
theorem Od {α:Type} {f:Nat→α→Bool}:∀ {l:List α} {k:Nat},l8 f k l=none→∀ j x,l[j]? = some x→f (k+j) x=false
  | y::r,k,h,j,x,ab=>by
    rw [l8] at h;split at h
    · cases h
    · rename_i aE
      split at h
      · cases h
      · rename_i aX
        cases j with
        | zero=>
          cases ab;simpa using aX
        | succ j=>
          have:=Od aE j x uv;rwa [show k+(j+1)=k+1+j by omega]
theorem Ig:∀ (l:List bs) (i a b:Nat),a<b→b<l.length→(bJ i l).1.getD a 0=((i+a:Nat):Int)→(bJ i l).1.getD b 0=((i+b:Nat):Int)→(bJ i l).2.getD a default≠(bJ i l).2.getD b default
  | [],_,_,_,_,h,_,_=>absurd h (an6 _)
  | x::r,i,0,b+1,_,an,aa,ad=>by
    have aC:=ny r (i+1);rw [i5] at an;rw [bJ] at aa ad ⊢;simp only [az8,av6] at aa ad ⊢;split at aa
    · rename_i j aI
      omega
    · rename_i aB
      obtain ⟨z,bG⟩:∃ z,(bJ (i+1) r).2[b]? = some z:=⟨_,d8 ag⟩;have:=Od aB b z bG;rw [af6,show (bJ (i+1) r).1.getD b 0=((i+1+b:Nat):Int) by rw [ad];omega] at this;simp only [beq_self_eq_true,f5,beq_eq_false_iff_ne] at this;rw [show (bJ (i+1) r).2.getD b default=z by rw [d5,bG];rfl];exact fun he=>this he.symm
  | x::r,i,a+1,b+1,iw,an,aa,ad=>by
    rw [bJ] at aa ad ⊢;simp only [av6] at aa ad ⊢;exact Ig r (i+1) a b ag (by rw [i5] at an;omega) (by rw [aa];omega) (by rw [ad];omega)
theorem Oe {α:Type} (f:Nat→α→Bool) (x:α):∀ (l:List α) (k:Nat),l8 f k (l++[x])=if f (k+l.length) x then some (k+l.length) else l8 f k l
  | [],k=>by rw [f0,l8,l8];rfl
  | y::r,k=>by
    have e:k+1+r.length=k+(y::r).length:=by rw [i5];omega
    rw [ab',l8,Oe f x r (k+1),e,l8];by_cases h:f (k+(y::r).length) x=true
    · rw [f7 h,f7 h]
    · rw [d7 h,d7 h]
structure kP (g:List bs):Prop where
 pos:1≤g.length
 len:g.length≤1000
 ms:∀ x∈g,x.ms.length≤16
 eD:∀ (i:Nat) (x:bs),g[i]? = some x→x.atom≥0→(i:Int)<x.no∧x.no<g.length∧(i:Int)<x.yes∧x.yes<g.length
def iy (g:List bs) (m:Nat):List Int:=H1 m 0++(bJ m (g.drop m)).1
def lh (g:List bs) (m:Nat):List bs:=g.take m++(bJ m (g.drop m)).2
theorem Eh (g:List bs) {m:Nat} (h:m≤g.length):(iy g m).length=g.length:=by
 unfold iy;rw [f9,ag2,(ny _ _).1,ai8];omega
theorem Ih (g:List bs) {m:Nat} (h:m≤g.length):(lh g m).length=g.length:=by
 unfold lh;rw [f9,ae9,(ny _ _).2,ai8];omega
theorem Ei (g:List bs) (m:Nat) (j:Nat):(iy g m).getD (m+j) 0=(bJ m (g.drop m)).1.getD j 0:=by
 unfold iy;rw [d5,d5,ae' uV,ag2,ar5]
theorem YA (g:List bs) {m:Nat} (h:m≤g.length) (j:Nat):(lh g m)[m+j]? = (bJ m (g.drop m)).2[j]?:=by
 unfold lh;rw [ae' vP,ae9,am7 h,ar5]
theorem YB (g:List bs) {m i:Nat} (h:i<m) (hm:m≤g.length):(lh g m)[i]? = g[i]?:=by
 unfold lh;rw [af9 vP,ai2,f7 h]
def oP (g:List bs) (m:Nat) (x:bs):bs:=if x.atom≥0 then { x with no:=(iy g (m+1)).getD x.no.toNat 0,yes:=(iy g (m+1)).getD x.yes.toNat 0 } else x
def sW (g:List bs) (m:Nat) (y:bs) (j:Nat) (z:bs):Bool:=(bJ (m+1) (g.drop (m+1))).1.getD j 0==((m+1+j:Nat):Int)&&z==y
theorem Of {g:List bs} (aq:kP g) {m:Nat} {x:bs} (ab:g[m]? = some x) :
  bJ m (g.drop m)=((match l8 (sW g m (oP g m x)) 0 (bJ (m+1) (g.drop (m+1))).2 with
   | some j=>((m+1+j:Nat):Int)
   | none=>(m:Int))::(bJ (m+1) (g.drop (m+1))).1,oP g m x::(bJ (m+1) (g.drop (m+1))).2):=by
 have az:m<g.length:=(t7.1 ab).1;have ay:g.drop m=x::g.drop (m+1):=by
  rw [List.drop_eq_getElem_cons az,(t7.1 ab).2]
 rw [ay,bJ];have ax:(if x.atom≥0 then { x with no:=(bJ (m+1) (g.drop (m+1))).1.getD (x.no.toNat-(m+1)) 0,yes:=(bJ (m+1) (g.drop (m+1))).1.getD (x.yes.toNat-(m+1)) 0 } else x)=oP g m x:=by
  unfold oP;split
  ·rename_i h
   have:=aq.eD m x ab h;rw [← Ei,← Ei,show m+1+(x.no.toNat-(m+1))=x.no.toNat by omega,show m+1+(x.yes.toNat-(m+1))=x.yes.toNat by omega]
  ·rfl
 simp only [ax];rfl
theorem YC (x y:bs):(x==y)=(decide (x.atom=y.atom)&&(decide (x.no=y.no)&&(decide (x.yes=y.yes)&&x.ms==y.ms))):=by
 obtain ⟨a,b,c,d⟩:=x;obtain ⟨c1,aY,ph,c4⟩:=y;rw [af0];simp
theorem gr {α:Type} {l:List α} {m:Nat} {x:α} (h:l[m]? = some x):l.set m x=l:=by
 apply ap5;intro j;rw [au4];split
 ·rename_i e
  subst e;have:=(t7.1 h).1;rw [f7 this,h]
 ·rfl
theorem Og {g:List bs} {m:Nat} {k:Int} {r:List Int} {ys:List bs} (h:bJ m (g.drop m)=(k::r,ys)) (ad:(bJ (m+1) (g.drop (m+1))).1=r):(iy g (m+1)).set m k=iy g m:=by
 unfold iy;rw [h,ad,ap3,ag',al6 _ _ uV,ag2,am'];rfl
theorem YD {g:List bs} {m:Nat} {y:bs} {r:List bs} {ks:List Int} (az:m<g.length) (h:bJ m (g.drop m)=(ks,y::r)) (ad:(bJ (m+1) (g.drop (m+1))).2=r):(lh g (m+1)).set m y=lh g m:=by
 unfold lh;rw [h,ad,an3,d8 az,ag',al6 _ _ vP,ae9,am7 ag,am'];rfl
theorem Ii:∀ (l:List bs) (i k:Nat) (z:bs),(bJ i l).2[k]? = some z→∃ x∈l,z.ms=x.ms
  | [],i,k,z,h=>by rw [bJ] at h;cases h
  | x::r,i,0,z,h=>by
    rw [bJ] at h;simp only [am8,ak0.injEq] at h;refine ⟨x,i6,?_⟩;rw [← h];split<;>rfl
  | x::r,i,k+1,z,h=>by
    rw [bJ] at h;simp only [ai4] at h;obtain ⟨y,aa,ad⟩:=Ii r (i+1) k z h;exact ⟨y,i0 _ aa,ad⟩
theorem YE (g:List bs) (m:Nat) (x:bs):(oP g m x).ms=x.ms:=by unfold oP;split<;>rfl
def bF.all (P:List Int→Prop):bF→Prop
 | .leaf ms=>P ms
 | .test _ a b=>a.all P∧b.all P
def bF.mh (A:Nat):bF→Prop
 | .leaf _=>True
 | .test i a b=>i<A∧a.mh A∧b.mh A
theorem BP {P:List Int→Prop} (A:Nat) (h:Nat→List Int) (bo:P []) (gT:∀ v,P (h v)):∀ (n:Nat) (vs:List Nat),vs.length≤n→(fN A h vs).all P
  | n,vs,aB=>by
    rw [vl];split
    · rw [bF.all]
      cases vs with
      | nil=>exact bo
      | cons v r=>exact gT v
    · refine HP (Pr:=fun t=>t.all P) (by rw [bF.all];exact bo) (fun _ h=>by cases h) (fun i _ he=>?_)
      have aC:=yZ he;cases n with
      | zero=>omega
      | succ n=>
        rw [bF.all];exact ⟨BP A h bo gT n _ ag,BP A h bo gT n _ ag⟩
theorem Ej (A:Nat) (h:Nat→List Int):∀ (n:Nat) (vs:List Nat),vs.length≤n→(fN A h vs).mh A
  | n,vs,aB=>by
    rw [vl];split
    · rw [bF.mh];trivial
    · refine HP (Pr:=fun t=>t.mh A) (by rw [bF.mh];trivial) (fun _ h=>by cases h) (fun i aS he=>?_)
      have aC:=yZ he;cases n with
      | zero=>omega
      | succ n=>
        rw [bF.mh];exact ⟨aj2.1 aS,Ej A h n _ ag,Ej A h n _ ag⟩
theorem Ij:∀ (t:bF) (L:List bs) (j:Nat) (x:bs),L.length≤j→(bF.laid L t)[j]? = some x→x.atom≥0→(j:Int)<x.no∧x.no<(bF.laid L t).length∧(j:Int)<x.yes∧x.yes<(bF.laid L t).length
  | .leaf ms,L,j,x,aI,ab,aO=>by
    rw [bF.laid,ae' aI] at ab;cases h:j-L.length with
    | zero=>rw [h] at ab;cases ab;simp at aO
    | succ n=>rw [h] at ab;cases ab
  | .test i a b,L,j,x,aI,ab,aO=>by
    have aa:=qh a (L++[⟨i,0,0,[]⟩]);have ad:=qh b (bF.laid (L++[⟨i,0,0,[]⟩]) a);have jN:=a.pB;have vd:=b.pB;have bM:(L++[(⟨i,0,0,[]⟩:bs)]).length=L.length+1:=by simp
    rw [bM] at aa;have rH:=Ij a (L++[⟨i,0,0,[]⟩]);have rI:=Ij b (bF.laid (L++[⟨i,0,0,[]⟩]) a);have mg:bF.laid L (.test i a b)=(bF.laid (bF.laid (L++[⟨i,0,0,[]⟩]) a) b).set L.length ⟨i,(L.length:Int)+1,((bF.laid (L++[⟨i,0,0,[]⟩]) a).length:Int),[]⟩:=rfl;rw [mg] at ab ⊢;rw [ag4];by_cases y9:j=L.length
    · subst y9
      rw [an1 ag] at ab;cases ab;simp only;omega
    · rw [ap1 ag] at ab
      by_cases Ik:j<(bF.laid (L++[⟨i,0,0,[]⟩]) a).length
      · rw [y3 b _ j Ik] at ab
        have:=rH j x ag ab aO;omega
      · have:=rI j x ag ab aO
        omega
theorem Il {P:List Int→Prop} (bo:P []):∀ (t:bF) (L:List bs),t.all P→(∀ x∈L,P x.ms)→∀ x∈bF.laid L t,P x.ms
  | .leaf ms,L,aM,bM,x,ab=>by
    rw [bF.laid] at ab;rcases ae2.1 ab with ab|ab
    · exact bM x ab
    · rw [t6.1 ab];exact aM
  | .test i a b,L,aM,bM,x,ab=>by
    have mg:bF.laid L (.test i a b)=(bF.laid (bF.laid (L++[⟨i,0,0,[]⟩]) a) b).set L.length ⟨i,(L.length:Int)+1,((bF.laid (L++[⟨i,0,0,[]⟩]) a).length:Int),[]⟩:=rfl;rw [mg] at ab;rcases ak9 ab with ab|rfl
    · refine Il bo b _ aM.2 (Il bo a _ aM.1 (fun y ax=>?_)) x ab
      rcases ae2.1 ax with ax|ax
      · exact bM y ax
      · rw [t6.1 ax];exact bo
    · exact bo
theorem Oh {t:bF} (aM:t.all (fun ms=>ms.length≤16)) (aC:t.leaves≤500):kP (bF.laid [] t):=by
 have aa:=qh t [];have ad:=t.pB;rw [ag0] at aa;exact ⟨by omega,by omega,Il (P:=fun ms=>ms.length≤16) bc t [] aM (fun _ h=>by cases h),fun i x ab aO=>Ij t [] i x (g9 _) ab aO⟩
theorem rJ {g:List bs} (h:fF g=true):kP g:=by
 obtain ⟨aa,ad⟩:=tN h;refine ⟨aa,by omega,fun x ab=>?_,fun i x ab aO=>?_⟩
 ·obtain ⟨i,aS⟩:=af' ab
  have aB:=tM h aS;by_cases aO:x.atom = -1
  ·exact ((mN aO).1 aB).2.2.1
  ·have:=((kk aO).1 aB).2.2.2.2.2.2
   omega
 ·have:=(kk ag).1 (tM h ab)
  omega
def Im (es:List (ah×ah)):Prop:=∀ e∈es,∃ n:Int,e.1 = .int .i64 n
theorem Io {x:Int} {v:ah}:∀ {es:List (ah×ah)},Im es→∃ dv,lT es (.int .i64 x) v=some dv∧Im dv∧∀ y:Int,i' dv (.int .i64 y)=if y=x then some (some v) else i' es (.int .i64 y)
  | [],_=>⟨[(.int .i64 x,v)],rfl,fun e he=>by rw [t6.1 he];exact ⟨x,rfl⟩,fun y=>by
    rw [i',i']
    by_cases h:y=x
    · subst h;simp [ke]
    · have:(y==x)=false:=by rw [beq_eq_false_iff_ne];exact h
      simp only [ke,ag5,this,d7 h];rfl⟩
  | e::r,h=>by
    obtain ⟨n,aB⟩:=h e i6;obtain ⟨k,u⟩:=e;have aB:k = .int .i64 n:=aB;subst aB;by_cases ab:n=x
    · subst ab
      refine ⟨(.int .i64 n,v)::r,by rw [lT];simp [ke],fun e he=>?_,fun y=>?_⟩
      · rcases ae8.1 he with rfl|he
        · exact ⟨n,rfl⟩
        · exact h e (i0 _ he)
      · rw [i',i']
        by_cases ax:y=n
        · subst ax;simp [ke]
        · have:(y==n)=false:=by rw [beq_eq_false_iff_ne];exact ax
          simp only [ke,ag5,this,d7 ax]
    · obtain ⟨dv,aa,ad,aj⟩:=Io (x:=x) (v:=v) (es:=r) fun e he=>h e (i0 _ he)
      have an:(x==n)=false:=by rw [beq_eq_false_iff_ne];exact fun e=>ab e.symm
      refine ⟨(.int .i64 n,u)::dv,by rw [lT];simp only [ke,ag5,an,aa],fun e he=>?_,fun y=>?_⟩
      · rcases ae8.1 he with rfl|he
        · exact ⟨n,rfl⟩
        · exact ad e he
      · rw [i',i',aj]
        by_cases ax:y=n
        · subst ax
          simp [ke,ab]
        · have:(y==n)=false:=by rw [beq_eq_false_iff_ne];exact ax
          simp only [ke,ag5,this]
structure qo (num:List (ah×ah)) (order path:List Int):Prop where
 int:Im num
 get:∀ x:Int,i' num (.int .i64 x)=some (if order.contains x then some (.int .i64 (placeOf order x)) else if path.contains x then some (.int .i64 (-1)) else none)
theorem qo.empty:qo [] [] []:=⟨fun _ h=>oa,fun _=>rfl⟩
theorem qo.enter {num:List (ah×ah)} {order path:List Int} (h:qo num order path) {eD:Int} (aa:order.contains eD=false) :
  ∃ vx,lT num (.int .i64 eD) (.int .i64 (-1))=some vx∧qo vx order (eD::path):=by
 obtain ⟨es,ad,aj,a8⟩:=Io (x:=eD) (v := .int .i64 (-1)) h.int;refine ⟨es,ad,aj,fun x=>?_⟩;rw [a8,h.get,ar'];by_cases ab:x=eD
 ·subst ab
  rw [f7 C,aa];simp
 ·rw [d7 ab,show (x==eD)=false by rw [beq_eq_false_iff_ne];exact ab,ah2]
theorem YF {order:List Int} {eD:Int} (h:order.contains eD=false):placeOf (order++[eD]) eD=(order.length:Int):=by
 unfold placeOf;have:(order++[eD]).findIdx? (· == eD)=some order.length:=by
  rw [az0];have aB:order.findIdx? (· == eD)=none:=by
   rw [ai0];intro x ab;rw [beq_eq_false_iff_ne];rintro rfl;rw [ah0.2 ab] at h;cases h
  rw [aB];simp [List.findIdx?_cons]
 rw [this];rfl
theorem YG {order:List Int} {eD x:Int} (h:order.contains x=true):placeOf (order++[eD]) x=placeOf order x:=by
 unfold placeOf;rw [az0];cases aX:order.findIdx? (· == x) with
 | some i=>rfl
 | none=>
  rw [ai0] at aX;have:=aX x (ah0.1 h);simp at this
theorem qo.leave {num:List (ah×ah)} {order path:List Int} {eD:Int} (h:qo num order (eD::path)) (aa:order.contains eD=false) :
  ∃ vx,lT num (.int .i64 eD) (.int .i64 (order.length:Int))=some vx∧qo vx (order++[eD]) path:=by
 obtain ⟨es,ad,aj,a8⟩:=Io (x:=eD) (v := .int .i64 (order.length:Int)) h.int;refine ⟨es,ad,aj,fun x=>?_⟩;rw [a8,h.get,ao0,ar',ar'];by_cases ab:x=eD
 ·subst ab
  rw [f7 C,aa,YF aa];simp
 ·rw [d7 ab,show (x==eD)=false by rw [beq_eq_false_iff_ne];exact ab,ah2,ah2]
  cases aD:order.contains x with
  | true=>rw [YG aD];simp
  | false=>simp
theorem YH {order:List Int} {x:Int} (h:order.contains x=false):placeOf order x=0:=by
 unfold placeOf;have aB:order.findIdx? (· == x)=none:=by
  rw [ai0];intro y ax;rw [beq_eq_false_iff_ne];rintro rfl;rw [ah0.2 ax] at h;cases h
 rw [aB];rfl
theorem Oi (order:List Int) (x:Int):0≤placeOf order x∧placeOf order x≤order.length:=by
 unfold placeOf;cases aX:order.findIdx? (· == x) with
 | none=>exact ⟨by simp,by simp⟩
 | some i=>
  have:=(ag9.1 aX).1;simp;omega
structure lj (n:Nat) (order:List Int):Prop where
 nodup:order.Nodup
 lt:∀ x∈order,0≤x∧x<n
theorem lj.len {n:Nat} {order:List Int} (h:lj n order):order.length≤n:=by
 have ad:order ⊆ (ah8 n).map (fun i:Nat=>(i:Int)):=fun x ab=>by
  have:=h.lt x ab;exact List.mem_map.2 ⟨x.toNat,aj2.2 ag,by omega⟩
 have:=List.Nodup.length_le_of_subset h.nodup ad;simpa using this
def Down (N:List bs):Prop:=∀ (i:Nat) (x:bs),N[i]? = some x→x.atom≥0→(i:Int)<x.no∧x.no<N.length∧(i:Int)<x.yes∧x.yes<N.length
theorem qp {N:List bs} {k a:Nat} {order:List Int} {x:bs} (ab:N[a]? = some x):meet N (k+1) order a=if order.contains (a:Int) then order else (if x.atom≥0 then meet N k (meet N k order x.yes) x.no else order)++[(a:Int)]:=by
 rw [meet];simp only [i9,d5,ab,ae4]
theorem lj.snoc {n:Nat} {order:List Int} (h:lj n order) {a:Nat} (aO:a<n) (aB:(a:Int)∉order):lj n (order++[(a:Int)]):=⟨by
 rw [List.nodup_append]
 refine ⟨h.nodup,by simp,fun x ab y ax=>?_⟩
 rw [t6.1 ax]
 rintro rfl
 exact aB ab,fun x ab=>by
 rcases ae2.1 ab with ab|ab
 ·exact h.lt x ab
 ·rw [t6.1 ab];omega⟩
theorem sX {N:List bs} (dk:Down N):∀ (k a:Nat),a<N.length→N.length-a≤k→∀ order:List Int,lj N.length order→lj N.length (meet N k order a)∧∀ y∈meet N k order a,y∈order∨(a:Int)≤y
  | 0,a,aa,ad,_,_=>by omega
  | k+1,a,aa,ad,order,ai=>by
    obtain ⟨x,ab⟩:∃ x,N[a]? = some x:=⟨_,d8 aa⟩;rw [qp ab];cases aD:order.contains (a:Int) with
    | true=>rw [f7 C];exact ⟨ai,fun y h => .inl h⟩
    | false=>
      rw [d7 bc];have key:lj N.length (if x.atom≥0 then meet N k (meet N k order x.yes) x.no else order)∧∀ y∈(if x.atom≥0 then meet N k (meet N k order x.yes) x.no else order),y∈order∨(a:Int)<y:=by
        split
        · rename_i aO
          obtain ⟨d1,d2,d3,d4⟩:=dk a x ab aO;obtain ⟨y,ax⟩:∃ y:Nat,x.yes=y:=⟨x.yes.toNat,by omega⟩;obtain ⟨z,bG⟩:∃ z:Nat,x.no=z:=⟨x.no.toNat,by omega⟩;rw [ax,bG];obtain ⟨n2,bT⟩:=sX dk k y ag ag order ai;obtain ⟨e5,Ip⟩:=sX dk k z ag ag _ n2;refine ⟨e5,fun u hu=>?_⟩;rcases Ip u hu with h|h
          · rcases bT u h with h|h
            · exact .inl h
            · exact .inr ag
          · exact .inr ag
        · exact ⟨ai,fun y h => .inl h⟩
      obtain ⟨cu,c2⟩:=key;refine ⟨cu.snoc aa (fun hm=>?_),fun y ax=>?_⟩
      · rcases c2 _ hm with h|h
        · rw [ah0.2 h] at aD;cases aD
        · omega
      · rcases ae2.1 ax with ax|ax
        · exact (c2 y ax).imp id (fun h=>by omega)
        · rw [t6.1 ax];exact .inr (al1 _)
theorem Iq:∀ (k:Nat) (l:List bs) (i:Nat),(bJ i l).1.drop k=(bJ (i+k) (l.drop k)).1∧(bJ i l).2.drop k=(bJ (i+k) (l.drop k)).2
  | 0,l,i=>⟨rfl,rfl⟩
  | k+1,[],i=>by rw [bJ,as9,as9,bJ];exact ⟨rfl,rfl⟩
  | k+1,x::r,i=>by
    have:=Iq k r (i+1);rw [bJ,ao2];simp only [ao2];rw [show i+(k+1)=i+1+k by omega];exact this
def jR (one:List Int) (x:bs):bs:=if x.atom≥0 then { x with no:=one.getD x.no.toNat 0,yes:=one.getD x.yes.toNat 0 } else x
theorem Oj (g:List bs) {m z:Nat} (h:m≤z):(iy g m).getD z 0=(bJ 0 g).1.getD z 0:=by
 have e:=Ei g m (z-m);rw [show m+(z-m)=z by omega] at e;have d:=(Iq m g 0).1;rw [af6] at d;rw [e,← d,d5,d5,ao8,show m+(z-m)=z by omega]
theorem vy {g:List bs} (aq:kP g) {a:Nat} {x:bs} (ab:g[a]? = some x):(bJ 0 g).2[a]? = some (jR (bJ 0 g).1 x):=by
 have aa:=Of aq ab;have d:=(Iq a g 0).2;rw [af6,aa] at d;have ad:((bJ 0 g).2.drop a)[0]? = some (oP g a x):=by rw [d];rfl
 rw [ao8,Nat.add_zero] at ad;rw [ad];congr 1;unfold oP jR;split
 ·rename_i h
  have:=aq.eD a x ab h;rw [Oj g ag,Oj g ag]
 ·rfl
theorem rK {g:List bs} (aq:kP g) {b:Nat} (an:b<g.length):∃ a:Nat,(bJ 0 g).1[b]? = some (a:Int)∧b≤a∧a<g.length:=by
 have aC:=(ny g 0).1;have mw:=Ie (n:=g.length) g 0 ag (fun k x ab aO=>by have:=aq.eD k x ab aO;rw [af6];exact this);have h:=(mw b an).1;obtain ⟨v,ar⟩:∃ v,(bJ 0 g).1[b]? = some v:=⟨_,d8 ag⟩;rw [d5,ar,ae4] at h;exact ⟨v.toNat,by rw [ar,show ((v.toNat:Nat):Int)=v by omega],by omega,by omega⟩
theorem zd {g:List bs} (aq:kP g):Down (bJ 0 g).2:=fun i x ab aO=>by
 obtain ⟨aa,ad⟩:=ny g 0;have me:=(t7.1 ab).1;obtain ⟨y,ax⟩:∃ y,g[i]? = some y:=⟨_,d8 ag⟩;have aB:=vy aq ax;rw [ab] at aB;cases aB;unfold jR at aO ⊢;by_cases h:y.atom≥0
 ·rw [f7 h]
  obtain ⟨d1,d2,d3,d4⟩:=aq.eD i y ax h;obtain ⟨a,YI,ze,ac4⟩:=rK aq (b:=y.no.toNat) ag;obtain ⟨c,sD,sR,ac5⟩:=rK aq (b:=y.yes.toNat) ag;simp only;rw [d5,YI,d5,sD];simp only [ae4];omega
 ·rw [d7 h] at aO
  exact absurd aO h
theorem uc {N:List bs} (dk:Down N):∀ (k a:Nat),a<N.length→N.length-a≤k→∀ order:List Int,(∀ y∈order,y∈meet N k order a)∧(a:Int)∈meet N k order a
  | 0,a,aa,ad,_=>by omega
  | k+1,a,aa,ad,order=>by
    obtain ⟨x,ab⟩:∃ x,N[a]? = some x:=⟨_,d8 aa⟩;rw [qp ab];cases aD:order.contains (a:Int) with
    | true=>rw [f7 C];exact ⟨fun y h=>h,ah0.1 aD⟩
    | false=>
      rw [d7 bc];refine ⟨fun y ax=>ai7 _ ?_,an8 _ bc⟩;split
      · rename_i aO
        obtain ⟨d1,d2,d3,d4⟩:=dk a x ab aO;obtain ⟨u,hu⟩:∃ u:Nat,x.yes=u:=⟨x.yes.toNat,by omega⟩;obtain ⟨z,bG⟩:∃ z:Nat,x.no=z:=⟨x.no.toNat,by omega⟩;rw [hu,bG];exact (uc dk k z ag ag _).1 y ((uc dk k u ag ag order).1 y ax)
      · exact ax
def qq (N:List bs) (order:List Int) (y:Int):Prop:=∀ x,N[y.toNat]? = some x→x.atom≥0→x.no∈order∧x.yes∈order
theorem qq.mono {N:List bs} {o o':List Int} {y:Int} (h:qq N o y) (au:∀ z∈o,z∈o'):qq N o' y:=fun x ab aO=>⟨au _ (h x ab aO).1,au _ (h x ab aO).2⟩
theorem Ek {N:List bs} (dk:Down N):∀ (k a:Nat),a<N.length→N.length-a≤k→∀ order:List Int,∀ y∈meet N k order a,y∈order∨qq N (meet N k order a) y
  | 0,a,aa,ad,_=>by omega
  | k+1,a,aa,ad,order=>by
    obtain ⟨x,ab⟩:∃ x,N[a]? = some x:=⟨_,d8 aa⟩;rw [qp ab];cases aD:order.contains (a:Int) with
    | true=>rw [f7 C];exact fun y h => .inl h
    | false=>
      rw [d7 bc];by_cases aO:x.atom≥0
      · rw [f7 aO]
        obtain ⟨d1,d2,d3,d4⟩:=dk a x ab aO;obtain ⟨u,hu⟩:∃ u:Nat,x.yes=u:=⟨x.yes.toNat,by omega⟩;obtain ⟨z,bG⟩:∃ z:Nat,x.no=z:=⟨x.no.toNat,by omega⟩;rw [hu,bG];have s1:=uc dk k u ag ag order;have s2:=uc dk k z ag ag (meet N k order u);have cW:=Ek dk k u ag ag order;have c6:=Ek dk k z ag ag (meet N k order u);intro y ax;rcases ae2.1 ax with ax|ax
        · rcases c6 y ax with h|h
          · rcases cW y h with h|h
            · exact .inl h
            · exact .inr (h.mono fun w hw=>ai7 _ (s2.1 w hw))
          · exact .inr (h.mono fun w hw=>ai7 _ hw)
        · rw [t6.1 ax]
          refine .inr fun qE ch _=>?_
          rw [i9,ab] at ch;cases ch;rw [hu,bG];exact ⟨ai7 _ s2.2,ai7 _ (s2.1 _ s1.2)⟩
      · rw [d7 aO]
        intro y ax;rcases ae2.1 ax with ax|ax
        · exact .inl ax
        · rw [t6.1 ax]
          refine .inr fun qE ch YJ=>?_
          rw [i9,ab] at ch;cases ch;exact absurd YJ aO
theorem n7 {order:List Int} (aB:order.Nodup) {i:Nat} {x:Int} (ab:order[i]? = some x):placeOf order x=(i:Int):=by
 obtain ⟨aa,ad⟩:=t7.1 ab;have:order.findIdx? (· == x)=some i:=by
  rw [ag9];refine ⟨aa,by rw [ad];simp,fun j aI=>?_⟩;rw [Bool.not_eq_true,beq_eq_false_iff_ne];intro he;have:=(List.getElem_inj aB).1 (he.trans ad.symm);omega
 unfold placeOf;rw [this];rfl
def oQ (N:List bs) (an jE iz:Nat):ah := .func 110 [] [.bA [.map an] 0,.bA [.aG 4 (N.map eR) .bd] 0,.ptr jE 0,.ptr iz 0]
def sY (N:List bs) (an jE iz:Nat) (num:List (ah×ah)) (order:List Int) (own:bV):bb:=
 [(.own jE,.box 163 [oQ N an jE iz]),(.own iz,.box 23 [.aG 1 (order.map bg) own]),(own,.row 3 1 order.length),(.own an,.map num)]
theorem YK (N:List bs) (a1:N.length≤1000) (dk:Down N) (an jE iz:Nat):∀ (k a:Nat),a<N.length→N.length-a≤k→∀ (num:List (ah×ah)) (order path:List Int) (own:bV),qo num order path→lj N.length order→(∀ x∈path,x<a) →
    ds d0 (oQ N an jE iz) [.int .i64 (a:Int)] (sY N an jE iz num order own) (fun o K=>∃ vx dz,qo vx (meet N k order a) path∧o = .ret (.cr [])∧K=sY N an jE iz vx (meet N k order a) dz):=by
  have oo:bx=1099511627776:=rfl;intro k
  induction k with
  | zero=>intro a aa ad;omega
  | succ k aW=>
    intro a aO aA num order path own oF BQ Ir;have hlen:=BQ.len;obtain ⟨x,ab,ch⟩:=b7 (f:=eR) aO;have nq:=qp (k:=k) (order:=order) ab;have iC:=oF.get a;refine ds.fm (first:=[]) (cap:=[.bA [.map an] 0,.bA [.aG 4 (N.map eR) .bd] 0,.ptr jE 0,.ptr iz 0]) ?_;refine bI.bl al Tryz.func110 C C fun s I=>?_
    unfold sY oQ at *;refine kG ?_;cases aD:order.contains (a:Int) with
    | true=>
      rw [aD,f7 C] at iC;rw [aD,f7 C] at nq;rw [nq];refine ae.jv al I C C C C C C C C C C a' C iC C ?_;refine et ?_;exact Fin.bC I C aT (aJ.all _) ⟨num,own,oF,rfl,rfl⟩
    | false=>
    have aF:path.contains (a:Int)=false:=by
      cases h:path.contains (a:Int) with
      | false=>rfl
      | true=>have:=Ir _ (ah0.1 h);omega
    rw [aD,d7 bc,aF,d7 bc] at iC;rw [aD,d7 bc] at nq;obtain ⟨Ol,wG,Om⟩:=oF.enter aD;refine ae.jv al I C C C C C C C C C C a' C iC C ?_;refine bK ?_;refine ae.nd al I C C (.inl C) C C C C C C a' C wG (fun I=>?_);unfold eR gO at ch;refine eh ?_;refine af.yq (σ:=List (ah×ah)×bV) (fun _=>[(0,.int .i64 (a:Int)),(1,.bA [.map an] 0),(2,.bA [.aG 4 (N.map eR) .bd] 0),(3,.ptr jE 0),(4,.ptr iz 0)]) (fun z=>sY N an jE iz z.1 (if x.atom≥0 then meet N k (meet N k order x.yes) x.no else order) z.2) (fun z=>qo z.1 (if x.atom≥0 then meet N k (meet N k order x.yes) x.no else order) ((a:Int)::path)) ?_ ?_
    · refine af.cond C (fun cx=>?_) (fun cx=>?_)
      · have cx:x.atom≥0:=by simpa using cx
        obtain ⟨d1,d2,d3,d4⟩:=dk a x ab cx;obtain ⟨y,ax⟩:∃ y:Nat,x.yes=y:=⟨x.yes.toNat,by omega⟩;obtain ⟨z,bG⟩:∃ z:Nat,x.no=z:=⟨x.no.toNat,by omega⟩;rw [f7 cx];simp only [ax,bG] at ch ⊢;have qN:=sX dk k y ag ag order BQ
        have i1:=aW y ag ag Ol order ((a:Int)::path) own Om BQ (fun p aF=>by
          rcases ae8.1 aF with rfl|aF
          · omega
          · have:=Ir p aF;omega)
        have i2:=fun El tK h=>aW z ag ag El (meet N k order y) ((a:Int)::path) tK h qN.1 (fun p aF=>by
          rcases ae8.1 aF with rfl|aF
          · omega
          · have:=Ir p aF;omega)
        refine tB I ?_;intro I;refine aL.gM rfl rfl rfl rfl rfl rfl rfl i1 I ba ?_ (fun _ _ h _=>by obtain ⟨_,_,_,h,_⟩:=h;cases h);rintro _ _ ⟨El,tK,Em,⟨⟩,rfl⟩ I;simp only [f0,ab'] at I ⊢;refine tB I ?_;intro I;refine aL.gM rfl rfl rfl rfl rfl rfl rfl (i2 El tK Em) I ba ?_ (fun _ _ h _=>by obtain ⟨_,_,_,h,_⟩:=h;cases h);rintro _ _ ⟨En,u3,uP,⟨⟩,rfl⟩ I;simp only [f0,ab'] at I ⊢;skip;exact l3.mk (En,u3) I uP (cK C) (by simp only [sY,oQ];exact ba)
      · have cx:¬ x.atom≥0:=by simpa using cx
        rw [d7 cx];refine fV ?_;exact l3.mk (Ol,own) I Om (cK C) (by simp only [sY,oQ];exact ba)
    rintro ⟨El,tK⟩ Em I;rw [nq];simp only at Em I ⊢;generalize lz:(if x.atom≥0 then meet N k (meet N k order x.yes) x.no else order)=order2 at *;have vc:lj N.length order2∧∀ y∈order2,y∈order∨(a:Int)<y:=by
      rw [← lz];split
      · rename_i cx
        obtain ⟨d1,d2,d3,d4⟩:=dk a x ab cx;obtain ⟨y,ax⟩:∃ y:Nat,x.yes=y:=⟨x.yes.toNat,by omega⟩;obtain ⟨z,bG⟩:∃ z:Nat,x.no=z:=⟨x.no.toNat,by omega⟩;rw [ax,bG];obtain ⟨n2,bT⟩:=sX dk k y ag ag order BQ;obtain ⟨e5,Ip⟩:=sX dk k z ag ag _ n2;refine ⟨e5,fun u hu=>?_⟩;rcases Ip u hu with h|h
        · rcases bT u h with h|h
          · exact .inl h
          · exact .inr ag
        · exact .inr ag
      · exact ⟨BQ,fun y h => .inl h⟩
    have sR:order2.contains (a:Int)=false:=by
      cases h:order2.contains (a:Int) with
      | false=>rfl
      | true=>
        rcases vc.2 _ (ah0.1 h) with h|h
        · rw [ah0.2 h] at aD;cases aD
        · omega
    have eQ:=vc.1.len;obtain ⟨En,uP,YL⟩:=Em.leave sR;unfold sY oQ at I ⊢;refine ct I ?_;intro I;refine ae.nd al I C C (.inl C) C C C C C C a' C (by rw [f8];exact uP) (fun I=>?_);refine ct I ?_;intro I;refine ae.ho al I C C C C C C C eH C C C C C C C C a' ir lC ag (fun bT I=>?_);refine ct I ?_;intro I;exact Fin.bC (K:=sY N an jE iz En (order2++[(a:Int)]) (.own bT)) I C aT (by simp only [sY,oQ,ae1,ae0,ag7,f9,i5,ag0];exact ba) ⟨En,.own bT,YL,rfl,rfl⟩
def vz (xs:List Int):Nat→List (Nat×Int)
 | 0=>[]
 | m+1=>(m,xs.getD m 0)::vz xs m
def Is (p:Nat×Int):ah := .int .i64 (p.1:Int)
def It (p:Nat×Int):ah := .int .i64 p.2
theorem On (xs:List Int):∀ m,m≤xs.length→(vz xs m).map (·.2)=(xs.take m).reverse
  | 0,_=>by rw [vz,al3];rfl
  | m+1,h=>by
    obtain ⟨x,ab⟩:∃ x,xs[m]? = some x:=⟨_,d8 ag⟩;rw [vz,ae0,On xs m ag,an3,ab,List.reverse_append,d5,ab];rfl
theorem YM (xs:List Int) (aC:xs.length<bx):GW d0 152 [] [.bA [.aG 1 (xs.map bg) .bd] 0] [] Is It (fun _=>True) (vz xs xs.length):=by
 have oo:bx=1099511627776:=rfl;intro l Go fD fK pf K bk;refine bI.bl al Tryz.func152 C C fun s I=>?_
 rw [f0] at I ⊢;have j2:((xs.map bg).length:Int)=(xs.length:Int):=by rw [f8]
 have hw:ac' .i64 ((xs.length:Int)-1)=(xs.length:Int)-1:=ev ag ag;refine hp ?_;refine af.ck [0,1] C I (σ:=Nat×bb) (fun q=>[(3,.int .i64 ((q.1:Int)-1))]) (fun q=>q.2) (fun q=>q.1≤xs.length∧Go (vz xs q.1) q.2) (fun q=>q.1) (xs.length,K) ⟨g7 _,bk⟩ (by repeat (first|exact trivial|refine ⟨⟨_,rfl,aT⟩,?_⟩|refine ⟨⟨_,rfl,aZ.of_eq (by (rw [j2,hw]))⟩,?_⟩)) (aJ.all _) ?_;rintro ⟨iP,iK⟩ ⟨hm,dj⟩ I;simp only at hm dj I ⊢;cases iP with
 | zero=>
  refine bK ?_;exact Fin.bC I C aT (aJ.all _) (.inl ⟨rfl,.inl dj⟩)
 | succ m=>
 have qS:(((m+1:Nat):Int)-1)=(m:Int):=by omega
 simp only [qS];obtain ⟨x,ab,ch⟩:=b7 (f:=bg) (show m<xs.length by omega);rw [vz,show xs.getD m 0=x by rw [d5,ab];rfl] at dj;have ax:=pf _ _ iK dj;unfold Is It at ax;unfold bg at ch;refine bK ?_;refine ae.gM C C C C C C ax I (aJ.all _) ?_ ?_
 ·rintro x aQ (⟨⟨⟩,-,h⟩|⟨⟨⟩,h⟩|⟨_,⟨⟩,_⟩) I
  all_goals rw [d9] at I ⊢
  ·refine bK ?_
   exact bD.mk (m,aQ) I ⟨by omega,h⟩ Ar (aJ.all _) (by show m<m+1;omega)
  ·refine fe ?_
   exact Fin.bC I C aT (aJ.all _) (.inl ⟨rfl,.inr h⟩)
 ·rintro x aQ (⟨h,_⟩|⟨h,_⟩|⟨v,⟨⟩,h⟩) I
  ·cases h
  ·cases h
  rw [d9] at I ⊢;exact Fin.fc I aT (aJ.all _) (.inr ⟨_,rfl,h⟩)
theorem YN (xs:List Int):aV d0 111 [bj xs] (.func 152 [] [.bA [.aG 1 (xs.map bg) .bd] 0]):=by
 have an:=bE;refine aV.bl al Tryz.func111 C C fun s I=>?_
 unfold bj;refine gE ?_;exact br I
section
variable {J:ao→Prop} {P:Program} {Γ:cw} {N:Nat} {l:List Oper} {Q:b3→Env→ao→Prop} {env:Env} {s:ao} {m:Nat}
theorem bq.two {i j:Nat} {zf zg:Oper} {Iu Iv:Nat} {Iw Ix:ah} (c9:J s) (aE:eP l.toArray m (idxs 0 l)=[i,j]) (eJ:af2 i j=false)
  (aS:l.toArray[i]? = some zf) (Iy:zf.dst=some Iu) (YO:z2 Iu N=true) (Eo:guardOf l.toArray (iF env (looks l.toArray zf)) zf=some true) (YP:a6 P N zf (iF env (looks l.toArray zf)) s (fun x ak=>x=Iw∧ak=s) (fun _ _=>False))
  (aI:l.toArray[j]? = some zg) (Iz:zg.dst=some Iv) (YQ:z2 Iv N=true) (YR:guardOf l.toArray (iF env (looks l.toArray zg)) zg=some true) (YS:a6 P N zg (iF env (looks l.toArray zg)) s (fun x ak=>x=Ix∧ak=s) (fun _ _=>False))
  (tw:bq J P Γ N l.toArray Q (bX (m|||2^i)) ((Iu,Iw)::env) s) (IA:bq J P Γ N l.toArray Q (bX (m|||2^j)) ((Iv,Ix)::env) s):bq J P Γ N l.toArray Q (bX m) env s:=by
 have cP:i≠j:=fun e=>by subst e;rw [show af2 i i=true from Nat.beq_refl i] at eJ;cases eJ
 have fo:∀ k,hn l.toArray (bX m) k→k=i∨k=j:=fun k aA=>by
  have:=Ae aA (l:=idxs 0 l) (by rw [yj,List.mem_range'_1];have:=aA.1;simp at this;omega);rw [aE] at this;simpa using this
 have jb:hn l.toArray (bX m) i:=by
  have fs:i∈eP l.toArray m (idxs 0 l):=by rw [aE];exact i6 ..
  have:∀ is,i∈eP l.toArray m is→iG l.toArray m i=true:=by
   intro is
   induction is with
   | nil=>intro h;cases h
   | cons j is aW=>
    intro h;simp only [eP] at h;split at h
    ·rename_i an
     rcases ae8.1 h with rfl|h
     ·exact an
     ·exact aW h
    ·exact aW h
  exact tx.1 (this _ fs)
 refine bq.split (fun k x ak=>(k=i→x=Iw)∧(k=j→x=Ix)∧ak=s) (fun _ _ _=>False) ⟨i,jb.1,jb.2.1⟩ (fun k o' aA cz=>?_) (fun k o' aA cz x ak bk => .inl (by rw [bk.2.2];exact c9)) (fun k o' c4 aA cz cg x ak bk=>?_) (fun k o' aA cz cg x ak bk=>?_) (fun k o' aA cz x ak iB=>iB.elim)
 ·rcases fo k aA with rfl|rfl
  ·rw [aS] at cz;cases cz
   exact ⟨Eo,YP.mono (fun x ak h=>⟨fun _=>h.1,fun e=>absurd e cP,h.2⟩) (fun _ _ h=>h),fun c4 cg=>by rw [Iy] at cg;cases cg;simpa [Nat.blt_eq] using YO⟩
  ·rw [aI] at cz;cases cz
   exact ⟨YR,YS.mono (fun x ak h=>⟨fun e=>absurd e.symm cP,fun _=>h.1,h.2⟩) (fun _ _ h=>h),fun c4 cg=>by rw [Iz] at cg;cases cg;simpa [Nat.blt_eq] using YQ⟩
 ·obtain ⟨aa,ad,rfl⟩:=bk
  rcases fo k aA with rfl|rfl
  ·rw [aS] at cz;cases cz
   rw [Iy] at cg;cases cg;rw [pa,aa C];exact tw
  ·rw [aI] at cz;cases cz
   rw [Iz] at cg;cases cg;rw [pa,ad C];exact IA
 ·rcases fo k aA with rfl|rfl
  ·rw [aS] at cz;cases cz
   rw [Iy] at cg;cases cg
  ·rw [aI] at cz;cases cz
   rw [Iz] at cg;cases cg
theorem bq.IB {L R:bb} (i:Nat) (aR:bR P Γ) (I:Ok s L) (c9:J (aU s L)) {o:Oper} {d:Nat} {t T:TypeId} {x:Operand} {dR:bQ} {b off:Nat} {cs:List ah} {v:ah} (aE:eP l.toArray m (idxs 0 l)=[i]) (ai:l.toArray[i]? = some o) (ay:o.dst=some d) (a1:z2 d N=true)
  (aq:c8 l env o) (b1:o.op = .load t x) (aM:Γ.get? t=some dR) (ab:aN (b2 l env o) x=some (.ptr b off)) (au:bp L (.own b) (.box T cs) R) (ar:hP dR cs off=some v)
  (h:bq J P Γ N l.toArray Q (bX (m|||2^i)) ((d,v)::env) (aU s L)):bq J P Γ N l.toArray Q (bX m) env (aU s L):=
 bq.one aE ai ay a1 aq (a6.eC aR I b1 aM ab au ar (X:=fun _ _=>False)) (fun x ak ⟨_,ad⟩ => .inl (by rw [ad];exact c9)) (fun x ak ⟨aa,ad⟩=>by subst aa;subst ad;exact h) (fun _ _ h=>h.elim)
theorem bq.Oo (i:Nat) (aR:bR P Γ) (c9:J s) {o:Oper} {d:Nat} {t dO e1:TypeId} {x y:Operand} {ok:Bool} {it gK aH:bQ} {b:Nat} {es:List (ah×ah)} {k z:ah} {r:Option ah} (aE:iG l.toArray m i=true) (ai:l.toArray[i]? = some o) (ay:o.dst=some d) (a1:z2 d N=true)
  (aq:c8 l env o) (b1:o.op = .lookup t x y ok) (aM:Γ.get? t=some it) (bw:it.bL = .map dO e1) (h1:Γ.get? dO=some gK) (bO:Γ.get? e1=some aH) (ab:aN (b2 l env o) x=some (.map b)) (ax:aN (b2 l env o) y=some k)
  (au:∀ s,J s→s b=some (.map es)) (aX:kf gK.bL k=true) (o0:i' es k=some r) (bG:hF aH.zero=some z)
  (h:bq J P Γ N l.toArray Q (bX (m|||2^i)) ((d,lU ok z r)::env) s):bq J P Γ N l.toArray Q (bX m) env s:=
 bq.r7 c9 aE ai ay a1 aq (fun s hK=>a6.lookup aR b1 aM bw h1 bO ab ax (.inl ⟨b,rfl,au s hK⟩) aX o0 bG) h
end
theorem Oq {w:World} {p:bU}:∀ {yss:List (List ah)} {us:List Value},bH w p us (yss.map ah.agg)→bH w p (flat us) yss.flatten
  | [],us,h=>by cases h;exact .nil
  | c::r,us,h=>by
    cases h with
    | cons u _ wg _ hu aM=>
    cases hu with
    | agg cs _ aD=>
    have:=Oq aM;rw [List.flatten_cons,show flat (Value.agg cs::wg)=cs.toList++flat wg by simp [flat,Value.cells]];exact bH.append aD this
section
variable {P:Program} {Γ:cw} {N:Nat} {ops:Array Oper} {Q:b3→Env→ao→Prop} {env:Env} {s:ao} {l:List Oper} {o:Oper} {d:Nat} {L R:bb}
theorem YT (aR:bR P Γ) {w:World} {p:bU} {S:ao} (ca:dq w p S) {t bP e ty:TypeId} {it cJ aH:bQ} {bZ sz:Nat} {olds:List Value} {xs:List ah} {yss:List (List ah)} {dD:bV} {base:Option Addr} {n cap:Nat} {q1:Value}
  (aM:Γ.get? t=some it) (bw:it.bL = .aG e) (c7:Γ.get? bP=some cJ) (dH:∀ k,cJ.bL ≠ .int k) (bO:Γ.get? e=some aH) (aa:aH.size=sz) (ed:af2 aH.zero.cells.size aH.size=true)
  (aE:bH w p olds xs) (aB:n*sz=xs.length) (tm:(Builtin.firstCells sz n (.slice base n cap)).run P w.drew = .ok olds.toArray w.drew) (ax:Rel w p q1 (.aG bZ (yss.map ah.agg) dD)) (dg:bZ=sz) (iq:∀ c∈yss,c.length=sz)
  (az:cap<n+yss.length) (an:(n+yss.length)*aH.bytes≤140737488355328) (eA:n+yss.length≤9223372036854775807) :
  ∃ aY cb cs' w',(Builtin.append_ #[t,bP] ty #[.slice base n cap,q1]).run P w = .ok (.slice (some ⟨aY,0,none⟩) (n+yss.length) cb) w'∧S aY=none∧de w p w' p∧Kept S (S.set aY (.box e cs')) w p w' p∧dq w' p (S.set aY (.box e cs')) ∧
   cs'.length=cb*sz∧n+yss.length≤cb∧cs'.take ((n+yss.length)*sz)=xs++yss.flatten:=by
 obtain ⟨info,d,g1,g2,g3,-⟩:=aR.parts aM;obtain ⟨m0,c4,ea,dr,dG,-⟩:=aR.parts c7;obtain ⟨jT,kB,cu,c2,fg,eG,jU,jq⟩:=aR.parts bO;have ay:d = .slice e:=by rw [bw] at g3;cases d<;>simp [en] at g3;rw [g3]
 subst ay;have cg:∀ k,c4 ≠ .int k:=fun k e'=>by subst e';exact dH k dG.symm
 obtain ⟨us,im,pR,jV,kg,tp,tq,tr⟩:=qK ax (.inr dg);rw [f8] at jV kg;subst dg;have tW:bH w p (flat us) yss.flatten:=Oq im;have m6:=tW.length;have fB:=growslice_fits (need:=n+yss.length) (old:=cap) (bytes:=aH.bytes) az an;have cR:=zV (ty:=ty) w g2 dr cg cu jq (base:=base) (sLen:=n) (sCap:=cap) (m:=yss.length) (olds:=olds) (news:=flat us) (jV P)
  (by rw [eG,aa];exact tm) (by rw [eG,aa];exact kg P w.drew (fun _ _ _=>rfl)) az ag (by rw [jU];exact fB)
 have nM:n+yss.length≤grownCap w (n+yss.length) cap e:=by simp [grownCap,Question.cut]
 have gd:olds.length=n*bZ:=by rw [aE.length,aB]
 have oZ:=ad' ed;generalize tn:(Builtin.zeroCells aH.zero.cells (grownCap w (n+yss.length) cap e-(n+yss.length))).toList=a' at cR;have mx:a'.length=(grownCap w (n+yss.length) cap e-(n+yss.length))*bZ:=by
  rw [← tn,Ni,oZ,aa]
 generalize grownCap w (n+yss.length) cap e=G at cR nM mx;have wQ:=x7 ca
 obtain ⟨au,hle,aA,k3⟩:=rY wQ (.cells (olds++flat us++a').toArray e (0,0)) (.box e (xs++yss.flatten++a'.map fun _ => .any)) (fun w' iO ar fz=>⟨_,iO,by
  refine bH.append (bH.append (fz _ _ (show bH w.drew p olds xs from aE.mono kX)) (fz _ _ (tW.mono kX))) (bH.Av a'),fun o aF=>absurd (ca.lt _ _ aF) (by show ¬ w.heap.size<w.heap.size;omega)⟩)
 rw [show w.drew.heap.size=w.heap.size from rfl] at au aA k3;have hm:(n+yss.length)*bZ=n*bZ+yss.length*bZ:=ak1 ..;have kz:=WZ iq;refine ⟨w.heap.size,G,xs++yss.flatten++a'.map (fun _=>ah.any),_,cR,au,kX.trans hle,(vW (w:=w) (p:=p)).trans (kX (w:=w) (p:=p)).size aA,k3,?_,nM,?_⟩
 ·simp only [f9,f8,mx]
  rw [← aB,kz,← hm,← ak1];congr 1;omega
 ·rw [ah3 (by rw [f9,kz];omega),ah1 (by rw [f9,kz];omega)]
theorem a6.IC (aR:bR P Γ) (I:Ok s L) {t bP e:TypeId} {x y:Operand} {it cJ aH:bQ} {eg bZ sz:Nat} {yss:List (List ah)} {dD:bV}
    (ai:o.op = .call { callee := .builtin .append,args := #[x,y],argTypes := #[t,bP] }) (aM:Γ.get? t=some it) (bw:it.bL = .aG e) (c7:Γ.get? bP=some cJ) (dH:∀ k,cJ.bL ≠ .int k)
    (bO:Γ.get? e=some aH) (aa:aH.size=sz) (ed:af2 aH.zero.cells.size aH.size=true) (ab:aN env x=some (.aG eg [] .clip)) (ax:aN env y=some (.aG bZ (yss.map ah.agg) dD)) (dg:bZ=sz) (iq:∀ c∈yss,c.length=sz) (cP:1≤yss.length) (an:yss.length*aH.bytes≤140737488355328) (eA:yss.length≤9223372036854775807)
    {X:ah→ao→Prop}:a6 P N o env (aU s L) (fun r ak=>HH s L e sz yss.length yss.flatten r ak) X:=by
  refine a6.kA jd fun ro B a w p aK=>?_
  have gh:=aK.aN ab;have fl:=aK.aN ax;have eO:=fun val w'=>uW (P:=P) (a:=a) (val:=val) (w:=w) (w':=w') ai
  generalize eo:a.eval x=dN at gh eO;generalize fh:a.eval y=gb at fl eO;have tF:∃ base,dN = .slice base 0 0:=by
    cases gh with
    | hY=>exact ⟨_,rfl⟩
    | iA a _ _ h=>exact ⟨_,rfl⟩
    | aG g off n cap _ vs _ _ aB aC aD aE au hm aA b9 ai=>
      have aa:n=0:=aC;have ad:=b9 C;subst aa;subst ad;exact ⟨_,rfl⟩
  obtain ⟨base,rfl⟩:=tF
  obtain ⟨aY,cb,cs',w',fr,gD,hB,ja,my,mz,nf,ng⟩:=YT (ty:=o.type) aR aK.wf (base:=base) (n:=0) (cap:=0) (olds:=[]) (xs:=[]) aM bw c7 dH bO aa ed .nil bc (by
    cases base with
    | none=>
      have:=run_firstCells_none (P:=P) w.drew sz 0 0 0
      simpa using this
    | some a=>exact run_firstCells_some w.drew sz 0 a _ _ [] bc bc) fl dg iq ag uu ag
  rw [af6] at fr nf ng;exact ⟨_,w',_,p,_,eO _ _ fr,hB,ja,my,⟨aY,cb,cs',rfl,rfl,⟨gD,I⟩,mz,nf,by simpa using ng⟩,.hE _⟩
theorem ae.IC (aR:bR P Γ) (I:Ok s L) {t bP e:TypeId} {x y:Operand} {it cJ aH:bQ} {eg bZ sz:Nat} {yss:List (List ah)} {dD:bV} (aq:guardOf ops env o=some true) (ay:o.dst=some d) (a1:z2 d N=true)
  (ai:o.op = .call { callee := .builtin .append,args := #[x,y],argTypes := #[t,bP] }) (aM:Γ.get? t=some it) (bw:it.bL = .aG e) (c7:Γ.get? bP=some cJ) (dH:∀ k,cJ.bL ≠ .int k)
  (bO:Γ.get? e=some aH) (aa:aH.size=sz) (ed:af2 aH.zero.cells.size aH.size=true) (ab:aN env x=some (.aG eg [] .clip)) (ax:aN env y=some (.aG bZ (yss.map ah.agg) dD)) (dg:bZ=sz) (iq:∀ c∈yss,c.length=sz) (cP:1≤yss.length) (an:yss.length*aH.bytes≤140737488355328) (eA:yss.length≤9223372036854775807)
  (h:∀ aY cb cs',cs'.length=cb*sz→yss.length≤cb→cs'.take (yss.length*sz)=yss.flatten→Ok s ((.own aY,.box e cs')::L)→ae P N ops l Q ((d,ee aY yss.length cb)::env) (aU s ((.own aY,.box e cs')::L))):ae P N ops (o::l) Q env (aU s L):=by
 refine ae.op aq ay a1 (a6.IC aR I ai aM bw c7 dH bO aa ed ab ax dg iq cP an eA (X:=fun _ _=>False)) ?_ (fun _ _ h=>h.elim);rintro r ak ⟨aY,cb,cs',rfl,rfl,ad,aj,a8,bB⟩;exact h aY cb cs' aj a8 bB ad
end
theorem Ep (g:List bs):g.map eR=(g.map gO).map ah.agg:=by rw [at9];rfl
theorem YU (g:List bs) (own:bV) (aa:1≤g.length) (aC:g.length≤1000):bI d0 109 [.aG 4 (g.map eR) own] [] (fun o K=>∃ b cap cs,y1 (some (b,cap,cs)) g∧o = .ret (ee b g.length cap)∧K=[(.own b,.box 69 cs)]):=by
 refine bI.bl al Tryz.func109 C C fun s I=>?_
 refine dS ?_;refine ae.op C C C (a6.GR al C C C C (X:=fun _ _=>False)) ?_ (fun _ _ h=>False.elim h);rintro r ak ⟨rfl,⟨rfl,aB⟩|rfl⟩
 ·have:g=[]:=List.map_eq_nil_iff.1 aB
  rw [this] at aa;simp at aa
 ·refine bK ?_
  refine ae.IC al I (yss:=g.map gO) C C C C C C C eH C C C C (by rw [← Ep];rfl) C (pC g) tC (by rw [f8];show _*48≤_;omega) ve (fun dm gw gg cW c6 eW I=>?_);refine ep ?_;exact Fin.bC I C (aZ.of_eq (by rw [f8])) ba ⟨dm,gw,gg,⟨cW,by simpa using c6,by simpa using eW⟩,rfl,rfl⟩
theorem YV (g:List bs):(iy g g.length).map bg=H1 g.length (.int .i64 0):=by
 unfold iy;rw [ax2,bJ,d9,aw0];rfl
theorem YW (g:List bs):lh g g.length=g:=by
 unfold lh;rw [ax2,bJ,d9,af1]
def rL (N:List bs) (an iz jE xF dA:Nat) (order:List Int) (num:List (ah×ah)) (one:List Int) (own:bV) (bt:Bn) (done:List bs):bb:=[(.own xF,.box 28 [j' bt done]),(.own iz,.box 23 [.aG 1 (order.map bg) .bd]),(.own jE,.box 163 [oQ N an jE iz]),(own,.row 3 1 order.length),(.own an,.map num),(.own dA,.box 3 (one.map bg))]++jC bt
def gU (N:List bs) (order:List Int) (eD:Int):bs:=let x:=N.getD eD.toNat default
 if x.atom≥0 then { x with no:=(order.length:Int)-1-placeOf order x.no,yes:=(order.length:Int)-1-placeOf order x.yes } else x
def ID (iz an rM:Nat) (order:List Int) (num:List (ah×ah)) (x:bs) (ak:ao):Prop:=ak iz=some (.box 23 [.aG 1 (order.map bg) .bd])∧ak an=some (.map num)∧∃ v,ak rM=some (.box 69 [.int .i64 x.atom,v,.int .i64 x.yes,.aG 1 (x.ms.map bg) .bd])
def oR (g:List bs) (pE ud dA cap m:Nat) (cs:List ah):bb:=[(.own pE,.box 28 [ee ud g.length cap]),(.own ud,.box 69 cs),(.own dA,.box 3 ((iy g m).map bg))]
theorem Ot (g:List bs) (aq:kP g):bI d0 63 [.aG 4 (g.map eR) .bd] [] (fun o K=>o = .ret (.aG 4 ((small g).map eR) .bd)∧K=[]):=by
  have oo:bx=1099511627776:=rfl;have ns:=aq.pos;have kK:=aq.len;have b9:=YU g .bd aq.pos aq.len;refine bI.bl al Tryz.func63 C C fun s I=>?_
  refine cl ?_;refine ae.yD al I (g.map eR).length C C C C C C C C C C C C (by rw [f8];show _*8≤_;omega) ve (fun dA I=>?_);refine h3 ?_;refine ae.b4 rfl rfl rfl rfl rfl b9 I .nil ?_ (fun _ _ ⟨_,_,_,_,h,_⟩ _=>by cases h);rintro _ _ ⟨ud,cap,YX,YY,⟨⟩,rfl⟩ I;simp only [f8,ab',f0] at I ⊢
  repeat (first|(refine TU I ?_;clear I;intro I)|refine ae.dZ al I rfl rfl rfl rfl rfl rfl rfl (fun cB I=>?_))
  obtain ⟨pE,rfl⟩:∃ x,x=cB:=⟨_,rfl⟩;have jG:=YV g;have j2:((g.map eR).length:Int)=(g.length:Int):=by rw [f8]
  have hw:ac' .i64 ((g.length:Int)-1)=(g.length:Int)-1:=ev ag ag;refine af.ck [0,3,4] C I (σ:=Nat×List ah) (fun q=>[(5,.int .i64 ((q.1:Int)-1))]) (fun q=>oR g pE ud dA cap q.1 q.2) (fun q=>q.1≤g.length∧y1 (some (ud,cap,q.2)) (lh g q.1)) (fun q=>q.1) (g.length,YX) ⟨g7 _,by rw [YW];exact YY⟩ (by repeat (first|exact trivial|refine ⟨⟨_,rfl,aT⟩,?_⟩|refine ⟨⟨_,rfl,aZ.of_eq (by (rw [j2,hw]))⟩,?_⟩)) (by unfold oR;simp only [jG];exact ba) ?_;rintro ⟨iP,cs⟩ ⟨hm,e4⟩ I;simp only at hm e4 I ⊢;cases iP with
  | zero=>
    have YZ:lh g 0=(bJ 0 g).2:=by unfold lh;simp
    have Y0:iy g 0=(bJ 0 g).1:=by unfold iy;simp
    obtain ⟨BR,jf⟩:=ny g 0;have mw:=Ie (n:=g.length) g 0 ag (fun k x ab aO=>by have:=aq.eD k x ab aO;rw [af6];exact this);have lk:Down (bJ 0 g).2:=fun i x ab aO=>by
      have me:=(t7.1 ab).1;have:=(mw i ag).2.2.2;rw [d5,ab] at this;have:=this aO;simp only [ae4] at this;omega
    obtain ⟨BS,Ou⟩:∃ BS,(bJ 0 g).1[0]? = some BS:=⟨_,d8 ag⟩;have Ov:(bJ 0 g).1.getD 0 0=BS:=by rw [d5,Ou];rfl
    have Y1:=(mw 0 ag).1;rw [Ov] at Y1;obtain ⟨a0,rfl⟩:∃ a:Nat,BS=a:=⟨BS.toNat,by omega⟩;have kt:small g=(meet (bJ 0 g).2 (g.length+1) [] a0).reverse.map fun eD=>
        let x:=(bJ 0 g).2.getD eD.toNat default
        if x.atom≥0 then { x with no:=((meet (bJ 0 g).2 (g.length+1) [] a0).length:Int)-1-placeOf (meet (bJ 0 g).2 (g.length+1) [] a0) x.no,yes:=((meet (bJ 0 g).2 (g.length+1) [] a0).length:Int)-1-placeOf (meet (bJ 0 g).2 (g.length+1) [] a0) x.yes } else x:=by
      unfold small;simp only [Ov]
    have ju:∀ x∈(bJ 0 g).2,x.ms.length≤16:=fun x ab=>by
      obtain ⟨k,aA⟩:=af' ab;obtain ⟨w,qa,IE⟩:=Ii g 0 k x aA;rw [IE];exact aq.ms w qa
    have sZ:lj (bJ 0 g).2.length []:=⟨List.nodup_nil,fun _ h=>by cases h⟩;have Y2:=YK (bJ 0 g).2 ag lk;have iL:=(sX lk (g.length+1) a0 ag ag [] sZ).1;have Y3:((bJ 0 g).1.map bg)[0*1]? = some (.int .i64 ((a0:Nat):Int)):=by rw [Nat.zero_mul,ae7,Ou];rfl
    unfold oR at I ⊢;rw [Y0] at I ⊢;rw [YZ] at e4;generalize (bJ 0 g).1=one at *;generalize (bJ 0 g).2=N at *;obtain ⟨pN,oi,Ow⟩:=e4;rw [jf] at oi Ow;refine af.Bl I 0 .here .here C Ow (by rw [f8,jf]) (pC _) oi ag (fun I=>?_);simp only [aA0,← Ep] at I ⊢;refine af.mE I 4 pE C .here (fun I=>?_);refine c5 ?_;refine ae.r8 I C C C C (fun an I=>?_);refine ae.Dc al C C C C C C C (fun _=>rfl) C C (fun _=>rfl) C C C C ?_
    repeat (first|(refine TV I ?_;clear I;intro I)|refine ae.dZ al I rfl rfl rfl rfl rfl rfl rfl (fun cB I=>?_))
    rename_i iz _;obtain ⟨jE,rfl⟩:∃ x,x=cB:=⟨_,rfl⟩;refine af.jw I 3 1 0 fun I=>?_
    refine af.rz I [.aG 1 [] .nil] (kb:=iz) a' (.one (aZ.nil h4)) (fun I=>?_);have c0:=Y2 an jE iz (g.length+1) a0 ag ag [] [] [] .nil qo.empty sZ (fun _ h=>by cases h);unfold sY oQ at c0;refine tB I ?_;intro I;refine aL.gF al 0 C C C C C C C C C C ag ?_;refine aL.lF al I C C C C C C a' C Y3 ?_;skip;refine aL.gM rfl rfl rfl rfl rfl rfl rfl c0 I ba ?_ (fun _ _ h _=>by obtain ⟨_,_,_,h,_⟩:=h;cases h);rintro _ _ ⟨num,own,oF,⟨⟩,rfl⟩ I;simp only [f0,ab'] at I ⊢;generalize meet N (g.length+1) [] a0=order at *;have hlen:=iL.len;refine uT ?_;refine af.rz I [.aG 1 (order.map bg) .bd] (kb:=iz) a' (.one aZ.bd) (fun I=>?_);have Y4:=YN order;unfold bj at Y4
    repeat (first|(refine TW I ?_;clear I;intro I)|refine ae.dZ al I rfl rfl rfl rfl rfl rfl rfl (fun cB I=>?_)|(refine p0 ?_))
    obtain ⟨xF,rfl⟩:∃ x,x=cB:=⟨_,rfl⟩
    rw [show (fun eD:Int=>let x:=N.getD eD.toNat default
        if x.atom≥0 then ({ x with no:=(order.length:Int)-1-placeOf order x.no,yes:=(order.length:Int)-1-placeOf order x.yes }:bs) else x)=gU N order from rfl] at kt
    have wh:=On order order.length (g7 _);rw [af1] at wh;have kT:(vz order order.length).length=order.length:=by
      have:=ae6 List.length wh;rwa [f8,an5] at this
    have eQ:∀ z:Int,lU false (.int .i64 0) (if order.contains z then some (.int .i64 (placeOf order z)) else if ([]:List Int).contains z then some (.int .i64 (-1)) else none) = .int .i64 (placeOf order z):=fun z=>by
      cases aD:order.contains z with
      | true=>rfl
      | false=>rw [YH aD];rfl
    refine af.LS I C dV dV (YM order ag) .nil (fun rem K=>∃ bt done,y1 bt done∧done.length+rem.length=order.length∧order.reverse.map (gU N order)=done++rem.map (fun q=>gU N order q.2)∧(∀ q∈rem,0≤q.2∧q.2<N.length)∧K=rL N an iz jE xF dA order num one own bt done) (fun _ _=>False) (fun _ _=>False) ⟨none,[],rfl,by rw [kT];simp,by rw [← wh,at9];rfl,(fun q bn=>by
      have:q.2∈order.reverse:=by rw [← wh];exact List.mem_map_of_mem bn
      exact iL.lt _ (List.mem_reverse.1 this)),rfl⟩ ?_ ?_ (fun _ _ h=>h.elim) (fun _ _ h=>h.elim)
    · rintro s₁ ⟨adO,eD⟩ rem K ⟨bt,done,db,wZ,vA,qn,rfl⟩ I
      have Y5:=qn _ i6;simp only at Y5;obtain ⟨a,rfl⟩:∃ a:Nat,eD=a:=⟨eD.toNat,by omega⟩;obtain ⟨x,ab,ch⟩:=b7 (f:=eR) (l:=N) (show a<N.length by omega);have zh:gU N order a=if x.atom≥0 then { x with no:=(order.length:Int)-1-placeOf order x.no,yes:=(order.length:Int)-1-placeOf order x.yes } else x:=by
        unfold gU;simp only [i9,d5,ab,ae4]
      rw [ae0,i5] at *;have b9:=AZ x.ms .bd (by have:=ju x (d6 ab);omega);have AI:=Oi order x.no;have ac6:=Oi order x.yes;unfold eR gO bj at ch;unfold Is It;unfold rL oQ at I ⊢;simp only [ab',f0] at I ⊢;have lV:=eQ x.no;have IF:=eQ x.yes;have Ox:=oF.get x.no;have Oy:=oF.get x.yes;generalize (if order.contains x.no then some (ah.int .i64 (placeOf order x.no)) else if ([]:List Int).contains x.no then some (ah.int .i64 (-1)) else none)=aej at lV Ox;generalize (if order.contains x.yes then some (ah.int .i64 (placeOf order x.yes)) else if ([]:List Int).contains x.yes then some (ah.int .i64 (-1)) else none)=adT at IF Oy;by_cases cx:x.atom≥0
      · rw [f7 cx] at zh
        have b6:ac' .i64 (ac' .i64 ((order.length:Int)-1)-placeOf order x.no)=(order.length:Int)-1-placeOf order x.no:=by
          rw [ev (n:=(order.length:Int)-1) ag ag,ev ag ag]
        have bW:ac' .i64 (ac' .i64 ((order.length:Int)-1)-placeOf order x.yes)=(order.length:Int)-1-placeOf order x.yes:=by
          rw [ev (n:=(order.length:Int)-1) ag ag,ev ag ag]
        repeat (first|(refine K7 I ?_;clear I;intro I)|refine ae.dZ al I rfl rfl rfl rfl rfl rfl rfl (fun cB I=>?_)|(refine p0 ?_))
        refine af.cond C (fun _=>?_) (fun h=>absurd cx hx);skip;obtain ⟨rM,rfl⟩:∃ x,x=cB:=⟨_,rfl⟩;have rN:=(⟨bp.get a' I,bp.get a' I,.int .i64 x.no,bp.get a' I⟩:ID iz an rM order num x _);refine af.qV (ID iz an rM order num x) al mixed C (bq.run rN C ?_);refine bq.ov 0 al rN C C C C C C C C (fun _ h=>h.1) b5 ?_;refine bq.ov 8 al rN C C C C C C C C (fun _ h=>h.1) b5 ?_;refine bq.Uf 13 al rN rfl rfl rfl rfl rfl rfl rfl rfl (fun _ h=>by obtain ⟨_,_,v,h⟩:=h;exact ⟨_,_,h,rfl⟩) ?_;refine bq.run rN C ?_;refine bq.Oo 14 al rN C C C C C C C C C C C C (fun _ h=>h.2.1) C Oy C ?_;rw [IF];refine bq.run rN C ?_;refine bq.IB 5 al I rN C C C C C C C C a' b5 ?_;refine bq.run rN C ?_;refine bq.Oo 6 al rN C C C C C C C C C C C C (fun _ h=>h.2.1) C Ox C ?_;rw [lV];refine bq.run rN C ?_;refine bq.cX 17 al I C C C C C C C C C C C a' C (fun I => .inl ⟨bp.get a' I,bp.get a' I,_,bp.get a' I⟩) (fun I=>?_);refine bq.run (⟨bp.get a' I,bp.get a' I,_,bp.get a' I⟩:ID iz an rM order num x _) C ?_;refine bq.cX 19 al I C C C C C C C C C C C a' C (fun _ => .inr C) (fun I=>?_);refine bf.done C ?_;rcases bt with _|⟨g2,gw,gg⟩
        · have bo:done=[]:=db
          subst bo;unfold j' jC at I ⊢;refine ct I ?_;intro I;refine ae.sK al I C C C C C C C eH C C C C C C C dV (fun dm gw gg cW c6 eW I=>?_);refine ct I ?_;intro I;exact At.mk (rL N an iz jE xF dA order num one own (some (dm,gw,gg)) ([]++[gU N order a])) I (by simp only [rL,jC,j',oQ,ab',f0,f9,i5,ag0];exact ba) ⟨trivial,some (dm,gw,gg),[]++[gU N order a],⟨cW,vf,by rw [y2,zh];refine eW.trans ?_;rw [← b6,← bW,f8];rfl⟩,by simp at wZ ⊢;omega,by rw [vA];simp,fun q bn=>qn q (i0 _ bn),rfl⟩
        · obtain ⟨fr,gD,hB⟩:=db
          unfold j' jC at I ⊢;refine ct I ?_;intro I;refine ae.sL al I C C C C C C C eH C C C C a' fr gD C C C C (by show (done.length+1)*48≤_;omega) ag (fun dm gw gg cW c6 eW I=>?_);refine ct I ?_;intro I;exact At.mk (rL N an iz jE xF dA order num one own (some (dm,gw,gg)) (done++[gU N order a])) I (by simp only [rL,jC,j',oQ,ab',f0,f9,i5,ag0];exact ba) ⟨trivial,some (dm,gw,gg),done++[gU N order a],⟨cW,vf,by rw [y2,zh,f9,i5,ag0,← hB];refine eW.trans ?_;rw [← b6,← bW,f8];rfl⟩,by simp at wZ ⊢;omega,by rw [vA];simp,fun q bn=>qn q (i0 _ bn),rfl⟩
      · rw [d7 cx] at zh
        repeat (first|(refine K7 I ?_;clear I;intro I)|refine ae.dZ al I rfl rfl rfl rfl rfl rfl rfl (fun cB I=>?_)|(refine p0 ?_))
        refine af.cond C (fun h=>absurd hx cx) (fun _=>?_);refine ct I ?_;intro I;rcases bt with _|⟨g2,gw,gg⟩
        · have bo:done=[]:=db
          subst bo;unfold j' jC at I ⊢;skip;refine ae.sK al I C C C C C C C eH C C C C C C C dV (fun dm gw gg cW c6 eW I=>?_);refine ct I ?_;intro I;exact At.mk (rL N an iz jE xF dA order num one own (some (dm,gw,gg)) ([]++[gU N order a])) I (by simp only [rL,jC,j',oQ,ab',f0,f9,i5,ag0];exact ba) ⟨trivial,some (dm,gw,gg),[]++[gU N order a],⟨cW,vf,by rw [y2,zh];refine eW.trans ?_;rfl⟩,by simp at wZ ⊢;omega,by rw [vA];simp,fun q bn=>qn q (i0 _ bn),rfl⟩
        · obtain ⟨fr,gD,hB⟩:=db
          unfold j' jC at I ⊢;skip;refine ae.sL al I C C C C C C C eH C C C C a' fr gD C C C C (by show (done.length+1)*48≤_;omega) ag (fun dm gw gg cW c6 eW I=>?_);refine ct I ?_;intro I;exact At.mk (rL N an iz jE xF dA order num one own (some (dm,gw,gg)) (done++[gU N order a])) I (by simp only [rL,jC,j',oQ,ab',f0,f9,i5,ag0];exact ba) ⟨trivial,some (dm,gw,gg),done++[gU N order a],⟨cW,vf,by rw [y2,zh,f9,i5,ag0,← hB];refine eW.trans ?_;rfl⟩,by simp at wZ ⊢;omega,by rw [vA];simp,fun q bn=>qn q (i0 _ bn),rfl⟩
    · rintro K ⟨bt,done,db,wZ,vA,-,rfl⟩ I
      rw [ag7,d9] at vA;rw [← vA,← kt] at db;refine uT ?_;rw [← vA,← kt] at I ⊢;unfold rL at I ⊢;rcases bt with _|⟨g2,gw,gg⟩
      · have bo:small g=[]:=db
        rw [bo];unfold j';refine ct I ?_;intro I;exact Fin.bC I C aZ.empty .nil ⟨rfl,rfl⟩
      · obtain ⟨fr,gD,hB⟩:=db
        have xw:(small g).length≤1000:=by rw [kt,f8,an5];omega
        unfold j' jC at I ⊢;refine af.Bl I 0 .here a' C hB (by rw [f8]) (pC _) gD ag (fun I=>?_);simp only [aA0,← Ep] at I ⊢;refine ct I ?_;intro I;exact Fin.bC I C aT .nil ⟨rfl,rfl⟩
  | succ m=>
  have az:m<g.length:=hm;have qS:(((m+1:Nat):Int)-1)=(m:Int):=by omega
  obtain ⟨x,ab,-⟩:=b7 (f:=eR) az;have aK:=Of aq ab;have IG:(lh g (m+1))[m]? = some x:=by rw [YB g ag hm,ab]
  have js:=fun (k:Nat) (v:ah) (aA:(gO x)[k]? = some v)=>Ns (pC _) e4.2.2 (by rw [ae7,IG];rfl) aA
  unfold oR at I ⊢;simp only [qS] at I ⊢;refine hq I ?_;intro I;refine ae.gF al m C C C C C C C C C C ag ?_;refine h3 ?_;refine ae.lF al I C C C C C C a' C (js 0 _ C) ?_;refine gj ?_;refine af.yq (σ:=List ah) (fun _=>[(0,.aG 4 (g.map eR) .bd),(3,ee dA g.length g.length),(4,.ptr pE 0),(5,.int .i64 (m:Int)),(6,.ptr ud (m*4))]) (fun cs'=>oR g pE ud dA cap (m+1) cs') (fun cs'=>y1 (some (ud,cap,cs')) ((lh g (m+1)).set m (oP g m x))) ?_ ?_
  · refine af.cond C (fun aO=>?_) (fun aO=>?_)
    · have aO:x.atom≥0:=by simpa using aO
      obtain ⟨zJ,x',zi,aet⟩:=aq.eD m x ab aO
      have iD:=fun (z:Int) (aa:(m:Int)<z) (ad:z<g.length)=>(show ((iy g (m+1)).map bg)[z.toNat*1]? = some (.int .i64 ((iy g (m+1)).getD z.toNat 0)) from by
        rw [aj3,ae7,d5,d8 (by rw [Eh g hm];omega)];rfl)
      have sh:=y0 (k:=1) (v := .int .i64 ((iy g (m+1)).getD x.no.toNat 0)) (pC _) e4.2.2 (by rw [ae7,IG];rfl) ag
      have oz:=y0 (k:=2) (v := .int .i64 ((iy g (m+1)).getD x.yes.toNat 0)) (fun c aD=>by
        rcases ak9 aD with aD|rfl
        · exact pC _ c aD
        · rfl) sh.2 (an1 (by rw [f8,Ih g hm];omega)) ag
      have Er:oP g m x={ x with no:=(iy g (m+1)).getD x.no.toNat 0,yes:=(iy g (m+1)).getD x.yes.toNat 0 }:=by unfold oP;rw [f7 aO]
      have pO:=Ih g hm;have fB:m*4+3≤cs.length:=by rw [e4.1];have:=e4.2.1;omega
      have Oz:Nat.ble (m*4+1+[ah.int .i64 ((iy g (m+1)).getD x.no.toNat 0)].length) cs.length=true:=by rw [Nat.ble_eq];show m*4+1+1≤_;omega
      have OA:Nat.ble (m*4+2+[ah.int .i64 ((iy g (m+1)).getD x.yes.toNat 0)].length) (eV (m*4+1) [ah.int .i64 ((iy g (m+1)).getD x.no.toNat 0)] cs).length=true:=by rw [Nat.ble_eq,sh.1];show m*4+2+1≤_;omega
      skip;refine af.qV (dE [(dA,_)]) al mixed C (bq.run (dE.one (bp.get a' I)) C ?_);refine bq.two (i:=6) (j:=13) (dE.one (bp.get a' I)) C C C C C C (a6.eC al I C C C a' (p4 C (js 1 _ C))) C C C C (a6.eC al I C C C a' (p4 C (js 2 _ C))) ?_ ?_
      · refine bq.gF 7 al (dE.one (bp.get a' I)) (j:=x.no.toNat) C C C C C C C C C C C ag ag ?_
        refine bq.ov 8 al (dE.one (bp.get a' I)) C C C C C C C C (fun _ h=>dE.fst h) (p4 C (iD x.no ag ag)) ?_;refine bq.IB 13 al I (dE.one (bp.get a' I)) C C C C C C C C a' (p4 C (js 2 _ C)) ?_;refine bq.gF 14 al (dE.one (bp.get a' I)) (j:=x.yes.toNat) C C C C C C C C C C C ag ag ?_;refine bq.ov 15 al (dE.one (bp.get a' I)) C C C C C C C C (fun _ h=>dE.fst h) (p4 C (iD x.yes ag ag)) ?_;refine bq.run (dE.one (bp.get a' I)) C ?_;refine bq.cX 18 al I C C C C C C C C C C C a' Oz (fun I => .inl (dE.one (bp.get a' I))) (fun I=>?_);refine bq.run (dE.one (bp.get a' I)) C ?_;refine bq.cX 21 al I C C C C C C C C C C C a' OA (fun _ => .inr C) (fun I=>?_);refine bf.done C ?_;skip
        exact l3.mk _ I ⟨oz.1.trans (sh.1.trans e4.1),by rw [ag4];exact e4.2.1,by
          rw [ag4]
          refine oz.2.trans ?_
          rw [ax0,aq2,Er]
          rfl⟩ (cK C) (by simp only [oR];exact ba)
      · refine bq.gF 14 al (dE.one (bp.get a' I)) (j:=x.yes.toNat) C C C C C C C C C C C ag ag ?_
        refine bq.ov 15 al (dE.one (bp.get a' I)) C C C C C C C C (fun _ h=>dE.fst h) (p4 C (iD x.yes ag ag)) ?_;refine bq.IB 6 al I (dE.one (bp.get a' I)) C C C C C C C C a' (p4 C (js 1 _ C)) ?_;refine bq.gF 7 al (dE.one (bp.get a' I)) (j:=x.no.toNat) C C C C C C C C C C C ag ag ?_;refine bq.ov 8 al (dE.one (bp.get a' I)) C C C C C C C C (fun _ h=>dE.fst h) (p4 C (iD x.no ag ag)) ?_;refine bq.run (dE.one (bp.get a' I)) C ?_;refine bq.cX 18 al I C C C C C C C C C C C a' Oz (fun I => .inl (dE.one (bp.get a' I))) (fun I=>?_);refine bq.run (dE.one (bp.get a' I)) C ?_;refine bq.cX 21 al I C C C C C C C C C C C a' OA (fun _ => .inr C) (fun I=>?_);refine bf.done C ?_;skip
        exact l3.mk _ I ⟨oz.1.trans (sh.1.trans e4.1),by rw [ag4];exact e4.2.1,by
          rw [ag4]
          refine oz.2.trans ?_
          rw [ax0,aq2,Er]
          rfl⟩ (cK C) (by simp only [oR];exact ba)
    · have aO:¬ x.atom≥0:=by simpa using aO
      have Er:oP g m x=x:=by unfold oP;rw [d7 aO]
      refine fV ?_;exact l3.mk cs I (by rw [Er,gr IG];exact e4) (cK C) (by simp only [oR];exact ba)
  intro cs' BT I;generalize w6:oP g m x=y at BT aK;have pO:=Ih g hm;have oz:(bJ (m+1) (g.drop (m+1))).2.length=g.length-(m+1):=by rw [(ny _ _).2,ai8]
  have Y6:∀ j,((lh g (m+1)).set m y)[m+1+j]? = (bJ (m+1) (g.drop (m+1))).2[j]? := fun j=>by
    rw [ap1 ag,YA g hm]
  have Y7:((lh g (m+1)).set m y)[m]? = some y:=an1 ag;have Es:=fun (k:Nat) (v:ah) (aA:(gO y)[k]? = some v)=>Ns (pC _) BT.2.2 (by rw [ae7,Y7];rfl) aA
  have OB:(lh g (m+1)).set m y=lh g m:=YD az aK C;have Y8:(g.length:Int)-1=((m+(g.length-1-m):Nat):Int):=by omega
  unfold oR at I ⊢;refine hp ?_;refine af.ck [0,3,4,5,6] C I (σ:=Nat) (fun c=>[(7,.int .i64 ((m+c:Nat):Int))]) (fun _=>oR g pE ud dA cap (m+1) cs') (fun c=>m+c<g.length∧l8 (sW g m y) 0 (bJ (m+1) (g.drop (m+1))).2=l8 (sW g m y) 0 ((bJ (m+1) (g.drop (m+1))).2.take c)) (fun c=>c) (g.length-1-m) ⟨by omega,by rw [ah1 ag]⟩ (by repeat (first|exact trivial|refine ⟨⟨_,rfl,aT⟩,?_⟩|refine ⟨⟨_,rfl,aZ.of_eq (by (rw [j2,hw,Y8]))⟩,?_⟩)) (by simp only [oR];exact ba) ?_;rintro c ⟨aD,aw⟩ I;simp only [oR] at aD aw I ⊢;cases c with
  | zero=>
    rw [aw,al3,l8] at aK;refine cf ?_;refine af.cond C (fun h=>by simp at h) (fun _=>?_);refine bK ?_;refine ae.gF al m C C C C C C C C C C ag ?_;refine ae.mK al I _ C C C C C C C C C a' (by rw [f8,Eh g hm];show m*1+1≤_;omega) C (fun I=>?_);have tY:eV (m*1) [.int .i64 (m:Int)] ((iy g (m+1)).map bg)=(iy g m).map bg:=by
      rw [si,aj3,← Og aK C,aq2];rfl
    refine hC ?_;exact bD.mk (m,cs') I ⟨by omega,by rw [← OB];exact BT⟩ Ar (by simp only [oR,← tY];exact ba) (by show m<m+1;omega)
  | succ c=>
    have b9:c<(bJ (m+1) (g.drop (m+1))).2.length:=by omega
    obtain ⟨z,bG⟩:∃ z,(bJ (m+1) (g.drop (m+1))).2[c]? = some z:=⟨_,d8 b9⟩;have OC:=Y6 c;rw [bG] at OC;have iD:((iy g (m+1)).map bg)[(m+1+c)*1]? = some (.int .i64 ((bJ (m+1) (g.drop (m+1))).1.getD c 0)):=by
      rw [← Ei,aj3,ae7,d5,d8 (by rw [Eh g hm];omega)];rfl
    have hL:(bJ (m+1) (g.drop (m+1))).2.take (c+1)=(bJ (m+1) (g.drop (m+1))).2.take c++[z]:=by rw [an3,bG];rfl
    rw [hL,Oe,af6,ae9,am7 ag] at aw;have pD:sW g m y c z=((bJ (m+1) (g.drop (m+1))).1.getD c 0==((m+1+c:Nat):Int)&&z==y):=rfl;obtain ⟨da,qa,IE⟩:=Ii _ _ _ _ bG;have mx:=aq.ms da (List.mem_of_mem_drop qa);have iq:=aq.ms x (d6 ab);have z1:=YE g m x;rw [w6] at z1;have heq:=wU y.ms z.ms (by rw [z1];omega) (by rw [IE];omega);have X6:(((m+(c+1):Nat):Int)-1)=((m+c:Nat):Int):=by omega
    have sT:((m+1+c:Nat):Int)=((m+(c+1):Nat):Int):=by omega
    refine cf ?_;refine af.cond C (fun _=>?_) (fun h=>by simp at h;omega);refine ct I ?_;intro I;refine ae.gF al (m+1+c) C C C C C C C C C ag ag ?_;refine ae.eC al I C C C C C C a' (Nn C (pC _) BT.2.2 (by rw [ae7,OC];rfl)) ?_;refine ft ?_;refine aL.gF al (m+1+c) C C C C C C C C C ag ag ?_;refine aL.lF al I C C C C C C a' C iD ?_;refine l5 ?_;by_cases cW:(bJ (m+1) (g.drop (m+1))).1.getD c 0=((m+(c+1):Nat):Int);rotate_left
    · refine aL.split 74 C (fun h=>absurd hx cW) (fun _=>?_)
      have mC:sW g m y c z=false:=by rw [pD,sT,show ((bJ (m+1) (g.drop (m+1))).1.getD c 0==((m+(c+1):Nat):Int))=false from beq_eq_false_iff_ne.2 cW,f6]
      rw [mC,d7 bc] at aw;refine ki ?_;exact bD.mk c I ⟨by omega,aw⟩ (by repeat (first|exact trivial|refine ⟨⟨_,rfl,aT⟩,?_⟩|refine ⟨⟨_,rfl,aZ.of_eq BB⟩,?_⟩)) ba (by show c<c+1;omega)
    refine aL.split 74 C (fun _=>?_) (fun h=>absurd cW hx);rw [sT,show ((bJ (m+1) (g.drop (m+1))).1.getD c 0==((m+(c+1):Nat):Int))=true from beq_iff_eq.2 cW,f5,YC] at pD;refine l5 ?_;refine aL.lF al I C C C C C C a' C (Es 0 _ C) ?_;refine l5 ?_;by_cases c6:y.atom=z.atom;rotate_left
    · refine aL.split 83 C (fun h=>absurd hx c6) (fun _=>?_)
      have mC:sW g m y c z=false:=by rw [pD,show decide (z.atom=y.atom)=false from i8 (fun e=>c6 e.symm)];simp
      rw [mC,d7 bc] at aw;refine ki ?_;exact bD.mk c I ⟨by omega,aw⟩ (by repeat (first|exact trivial|refine ⟨⟨_,rfl,aT⟩,?_⟩|refine ⟨⟨_,rfl,aZ.of_eq BB⟩,?_⟩)) ba (by show c<c+1;omega)
    refine aL.split 83 C (fun _=>?_) (fun h=>absurd c6 hx);rw [show decide (z.atom=y.atom)=true from g8 c6.symm,f5] at pD;refine l5 ?_;refine aL.lF al I C C C C C C a' C (Es 1 _ C) ?_;refine l5 ?_;by_cases eW:y.no=z.no;rotate_left
    · refine aL.split 92 C (fun h=>absurd hx eW) (fun _=>?_)
      have mC:sW g m y c z=false:=by rw [pD,show decide (z.no=y.no)=false from i8 (fun e=>eW e.symm)];simp
      rw [mC,d7 bc] at aw;refine ki ?_;exact bD.mk c I ⟨by omega,aw⟩ (by repeat (first|exact trivial|refine ⟨⟨_,rfl,aT⟩,?_⟩|refine ⟨⟨_,rfl,aZ.of_eq BB⟩,?_⟩)) ba (by show c<c+1;omega)
    refine aL.split 92 C (fun _=>?_) (fun h=>absurd eW hx);rw [show decide (z.no=y.no)=true from g8 eW.symm,f5] at pD;refine l5 ?_;refine aL.lF al I C C C C C C a' C (Es 2 _ C) ?_;refine l5 ?_;by_cases o4:y.yes=z.yes;rotate_left
    · refine aL.split 101 C (fun h=>absurd hx o4) (fun _=>?_)
      have mC:sW g m y c z=false:=by rw [pD,show decide (z.yes=y.yes)=false from i8 (fun e=>o4 e.symm)];simp
      rw [mC,d7 bc] at aw;refine ki ?_;exact bD.mk c I ⟨by omega,aw⟩ (by repeat (first|exact trivial|refine ⟨⟨_,rfl,aT⟩,?_⟩|refine ⟨⟨_,rfl,aZ.of_eq BB⟩,?_⟩)) ba (by show c<c+1;omega)
    refine aL.split 101 C (fun _=>?_) (fun h=>absurd o4 hx);rw [show decide (z.yes=y.yes)=true from g8 o4.symm,f5] at pD;refine l5 ?_;refine aL.lF al I C C C C C C a' C (Es 3 _ C) ?_;have OD:(z.ms==y.ms)=(y.ms==z.ms):=by rw [af0,am5,am5];exact ⟨fun h=>h.symm,fun h=>h.symm⟩
    cases sv:y.ms==z.ms with
    | false=>
      have mC:sW g m y c z=false:=by rw [pD,OD,sv]
      rw [sv] at heq;rw [mC,d7 bc] at aw;refine cl ?_;exact bD.mk c I ⟨by omega,aw⟩ (by repeat (first|exact trivial|refine ⟨⟨_,rfl,aT⟩,?_⟩|refine ⟨⟨_,rfl,aZ.of_eq BB⟩,?_⟩)) ba (by show c<c+1;omega)
    | true=>
      have mC:sW g m y c z=true:=by rw [pD,OD,sv]
      rw [mC,f7 C] at aw;rw [aw] at aK;simp only [sT] at aK;rw [sv] at heq;refine c5 ?_;refine ae.gF al m C C C C C C C C C C ag ?_;refine ae.mK al I _ C C C C C C C C C a' (by rw [f8,Eh g hm];show m*1+1≤_;omega) C (fun I=>?_);have tY:eV (m*1) [.int .i64 ((m+(c+1):Nat):Int)] ((iy g (m+1)).map bg)=(iy g m).map bg:=by
        rw [si,aj3,← Og aK C,aq2];rfl
      refine bK ?_;exact bD.mk (m,cs') I ⟨by omega,by rw [← OB];exact BT⟩ Ar (by simp only [oR,← tY];exact ba) (by show m<m+1;omega)
theorem Y9 (x y:bs) (ab:x.ms.length<bx) (ax:y.ms.length<bx):aV d0 66 [eR x,eR y] (.bool (x==y)):=by
 have an:=bE;refine aV.bl al Tryz.func66 C C fun s I=>?_
 have aa:=Du x.ms y.ms ab ax;have he:(x==y)=(decide (x.atom=y.atom)&&(decide (x.no=y.no)&&(decide (x.yes=y.yes)&&x.ms==y.ms))):=by
  obtain ⟨a,b,c,d⟩:=x;obtain ⟨c1,aY,ph,c4⟩:=y;rw [af0];simp
 unfold eR gO bj at *
 repeat' (first|(with_reducible first|apply af.seq|apply b0|apply af.ret)|refine cY C ?_|refine af.cH ?_|refine ae.nil ?_|refine cF C ?_|refine ae.skip C C C ?_|refine ae.dL C C C C C cp ?_|(fail_if_success refine ae.same true C ?_);(fail_if_success refine ae.same false C ?_);refine ae.gY C C (fun h=>?_) (fun h=>?_))
 all_goals (refine Fin.cE I C (aZ.of_eq (ae6 ah.bool ?_));rw [he];clear I aa he;grind)
theorem OE (a b:List bs) (aO:a.length<bx) (dU:b.length<bx) (Y':∀ x∈a,x.ms.length<bx) (wW:∀ x∈b,x.ms.length<bx):aV d0 15 [e7 a,e7 b] (.bool (a==b)):=by
 have an:=bE;refine aV.bl al Tryz.func15 C C fun s I=>?_
 unfold e7;refine cf ?_;refine af.cond C (fun cP=>?_) (fun heq=>?_)
 ·have cP:a.length≠b.length:=by simp at cP;omega
  have:(a==b)=false:=by rw [beq_eq_false_iff_ne];rintro rfl;exact cP C
  rw [this];refine gE ?_;exact br I
 have heq:a.length=b.length:=by simp at heq;omega
 refine jL ?_;refine af.ck [0,1] C I (σ:=Nat) (fun j=>[(5,.int .i64 (j:Int))]) (fun _=>[]) (fun j=>j≤a.length∧(a==b)=(a.drop j==b.drop j)) (fun j=>a.length-j) 0 ⟨g9 _,by simp⟩ (cK C) .nil ?_;rintro j ⟨aI,aw⟩ I
 try simp only at aI aw I ⊢
 refine cf ?_;refine af.cond C (fun az=>?_) (fun a7=>?_);rotate_left
 ·have a7:j=a.length:=by simp at a7;omega
  rw [eE ag,eE (l:=b) ag] at aw;rw [aw];refine ew ?_;exact br I
 have az:j<a.length:=by simpa using az
 obtain ⟨x,ab,ch⟩:=b7 (f:=eR) az;obtain ⟨y,ax,dc⟩:=b7 (f:=eR) (show j<b.length by omega);have au:=Y9 x y (Y' x (d6 ab)) (wW y (d6 ax));rw [drop_cons ab,drop_cons ax,List.cons_beq_cons] at aw;unfold eR gO bj at ch dc au;cases aD:x==y with
 | false=>
  rw [aD] at au;rw [aw,aD,f6];refine cl ?_;exact br I
 | true=>
  rw [aD] at au;rw [aD,f5] at aw;refine cl ?_;exact bD.mk (j+1) I ⟨az,aw⟩ cA .nil Au
section
variable {P:Program} {Γ:cw} {N:Nat} {l:List Oper} {i:Nat} {rest:List Oper} {Q:b3→Env→ao→Prop} {env:Env} {s:ao} {o:Oper} {d:Nat}
theorem aL.q0 {J:ao→Prop} (aR:bR P Γ) {t bP e:TypeId} {x y:Operand} {it cJ aH:bQ} {eg bZ:Nat} {xs ys:List ah} {own dD:bV} (aq:c8 l env o) (ay:o.dst=some d) (a1:z2 d N=true)
  (ai:o.op = .call { callee := .builtin .append,args := #[x,y],argTypes := #[t,bP] }) (aM:Γ.get? t=some it) (bw:it.bL = .aG e) (c7:Γ.get? bP=some cJ) (dH:∀ k,cJ.bL ≠ .int k)
  (bO:Γ.get? e=some aH) (ab:aN (b2 l env o) x=some (.aG eg xs own)) (ax:aN (b2 l env o) y=some (.aG bZ ys dD)) (hI:xs=[]∨eg=aH.size) (dg:ys=[]∨bZ=aH.size)
  (ed:af2 aH.zero.cells.size aH.size=true) (dY:∀ y∈ys,lu aH.size y=true) (an:(xs.length+ys.length)*aH.bytes≤140737488355328) (eA:xs.length+ys.length≤9223372036854775807)
  (pZ:own = .nil∨own = .clip) (h:aL J P Γ N l (i+1) rest Q ((d,.aG aH.size (xs++ys) .bd)::env) s):aL J P Γ N l i (o::rest) Q env s:=
 aL.calm aq ay a1 (fun _ _=>a6.q0 aR ai aM bw c7 dH bO ab ax hI dg ed dY an eA pZ) h
end
section
variable {P:Program} {Γ:cw} {N:Nat} {env:Env} {s:ao} {Q:b3→Env→ao→Prop} {L R:bb}
theorem dw.IH {B:fQ} {ro:Option Nat} {a:Act} {w:World} {p:bU} (h:dw N B ro env s a w p) {t b n cap sz:Nat} {T:TypeId} {cs:List ah} {xss:List (List ah)} (aM:env.get? t=some (ee b n cap)) (au:s b=some (.box T cs)) (ab:cs.take (n*sz)=xss.flatten) (hH:xss.length=n) (cc:∀ c∈xss,c.length=sz) (aB:n≤cap) (hm:n≤9223372036854775807):∃ bh,dw N B ro ((t,.aG sz (xss.map ah.agg) .bd)::env) (s.del b) a w bh∧de w p w bh∧Kept s (s.del b) w p w bh:=by
 have F2:dw N B ro ((a.tmps.size,.any)::[]) s a w p:=h.restrict _ (fun t v ar=>by
  simp only [Env.get?] at ar
  split at ar
  ·cases ar;exact .any _
  ·cases ar)
 obtain ⟨vs,aa,ad,aj⟩:=h.wf.obj _ _ au;have az:b<w.heap.size:=(Array.getElem?_eq_some_iff.1 aa).1;have hle:de w p w (p.dX b True):=⟨rfl,rfl,rfl,g7 _,fun _ _ h => .inl h,fun _ _ _=>rfl,fun _ _ h=>h⟩
 have aA:Kept s (s.del b) w p w (p.dX b True):=⟨fun _ _ _=>rfl,fun aY an aB=>by
  by_cases e:aY=b
  ·subst e;exact ao.nL _ _
  ·rw [ao.m3 _ e];exact aB,fun aY o an aB aF=>by
   rcases aF with aF|⟨rfl,_⟩
   ·exact aF
   ·rw [au] at aB;cases aB⟩
 have ca:dq w (p.dX b True) (s.del b):=by
  refine ⟨fun aY o an=>?_,fun aY o aF=>by rcases aF with aF|⟨rfl,_⟩;exact h.wf.lt _ _ aF;exact az⟩;by_cases e:aY=b
  ·subst e;rw [ao.nL] at an;cases an
  ·rw [ao.m3 _ e] at an
   have ai:=h.wf.obj aY o an;have fa:∀ o,p.dX b True aY o↔p aY o:=fun o=>⟨fun aF=>by rcases aF with aF|⟨e',_⟩;exact aF;exact absurd e' e,.inl⟩
   cases o with
   | box t c=>obtain ⟨us,g1,g2,g3⟩:=ai;exact ⟨us,g1,g2.mono hle,fun o aF=>g3 o ((fa o).1 aF)⟩
   | row t sz n=>obtain ⟨cur,g1,g2,g3,g4⟩:=ai;exact ⟨cur,g1,g2,g3,fun o=>(fa o).trans (g4 o)⟩
   | map es=>obtain ⟨cQ,c,g1,g2,g3⟩:=ai;exact ⟨cQ,c,g1,⟨g2.1.mono hle,g2.2.mono hle⟩,g3⟩
   | lp es it l c=>exact ai.qD hle C C
   | tick m=>exact ai
   | loop r env=>exact ⟨ai.1,fun t v h=>(ai.2 t v h).mono hle⟩
 have aK:=h.step hle aA ca;refine ⟨_,⟨aK.size,fun bP v ar=>?_,aK.wf,aK.defs,aK.round,aK.base⟩,hle,aA⟩;simp only [Env.get?] at ar;split at ar
 ·rename_i he
  have:=ad' he;subst this;cases ar;have aE:=h.env t _ aM;generalize a.tmps.getD t undef=dN at aE;cases aE;have hL:=ad.take (n*sz);rw [ab] at hL;obtain ⟨us,b6,bW,eN⟩:=Gz hL cc;refine .aG b 0 n cap sz us (xss.map ah.agg) .bd bc (by rw [f8,hH]) ?_ (b6.mono hle) eN hm aB (fun h=>by cases h) (fun b h=>by cases h);rw [bW];intro i v aS;refine ⟨.inr ⟨rfl,trivial⟩,?_⟩;rw [af6,jH aa];rw [ai2] at aS;split at aS
  ·simpa using aS
  ·cases aS
 ·exact aK.env bP v ar
theorem af.IH {c:Code} (I:Ok s L) (t b:Nat) {n cap sz:Nat} {T:TypeId} {cs:List ah} {xss:List (List ah)} (aM:env.get? t=some (ee b n cap)) (au:bp L (.own b) (.box T cs) R) (ab:cs.take (n*sz)=xss.flatten) (hH:xss.length=n) (cc:∀ c∈xss,c.length=sz) (aB:n≤cap) (hm:n≤9223372036854775807)
  (h:Ok s R→af P N c Q ((t,.aG sz (xss.map ah.agg) .bd)::env) (aU s R)):af P N c Q env (aU s L):=by
 obtain ⟨aa,ad⟩:=au.del I;intro tG B a w p eZ aK;obtain ⟨bh,aj,a8,bB⟩:=aK.IH aM (au.get I) ab hH cc aB hm;rw [aa] at aj bB;exact mq (h ad tG B a w bh eZ aj) fun _ _ _ q=>q.after a8 bB
end
def BU (n:Nat) (order:List Int) (j:Nat) (R:List Int):Prop:=R.length=n∧∀ (i:Nat) (x:Int),i<j→order[i]? = some x→R[x.toNat]? = some ((order.length:Int)-1-i)
theorem BU.step {n:Nat} {order:List Int} (ai:lj n order) {j:Nat} {R:List Int} (h:BU n order j R) {a:Nat} (aO:order[j]? = some (a:Int)):BU n order (j+1) (R.set a ((order.length:Int)-1-j)):=by
 have jM:=ai.lt _ (d6 aO);refine ⟨by rw [ag4];exact h.1,fun i x aS ab=>?_⟩;have hH:=ai.lt _ (d6 ab);by_cases eJ:i=j
 ·subst eJ
  rw [aO] at ab;cases ab;rw [i9,an1 (by rw [h.1];omega)]
 ·have cP:x≠(a:Int):=fun e=>by
   have aa:=n7 ai.nodup ab;have ad:=n7 ai.nodup aO;rw [e,ad] at aa;omega
  rw [ap1 ag];exact h.2 i x ag ab
theorem BU.all {n:Nat} {order:List Int} (ai:lj n order) {R:List Int} (h:BU n order order.length R) {x:Int} (ab:x∈order):R[x.toNat]? = some ((order.length:Int)-1-placeOf order x):=by
 obtain ⟨i,aS⟩:=af' ab;rw [n7 ai.nodup aS];exact h.2 i x (t7.1 aS).1 aS
def mW:bF→Nat→List Int×Nat
 | .leaf ms,_=>(ms,0)
 | .test i a b,v=>((if v.testBit i then mW b v else mW a v).1,(if v.testBit i then mW b v else mW a v).2+1)
theorem Za {h:Nat→List Int}:∀ {vs:List Nat},mV h vs=true→∀ v∈vs,firstM h vs=h v
  | u::r,aO,v,ar=>by
    rw [firstM];rcases ae8.1 ar with rfl|ar
    · rfl
    · rw [mV,af5] at aO
      exact (beq_iff_eq.1 (aO v ar)).symm
theorem II (A:Nat) (h:Nat→List Int):∀ (n:Nat) (vs:List Nat),vs.length≤n→(∀ u∈vs,u<2^A)→∀ v∈vs,(mW (fN A h vs) v).1=h v
  | n,vs,aB,lB,v,ar=>by
    have lO:=vl A h vs;cases aO:mV h vs with
    | true=>
      rw [aO,f7 C] at lO;rw [lO,mW];exact Za aO v ar
    | false=>
      rw [aO,d7 bc] at lO;obtain ⟨o,ai⟩:=Nr (A:=A) (h:=h) (vs:=vs) lB aO (fN A h);rw [ai,ae4] at lO;rw [lO];refine HO (Pr:=fun t=>(mW t v).1=h v) _ none (fun _ h=>by cases h) (fun i _ he=>?_) o ai;have aC:=yZ he;cases n with
      | zero=>omega
      | succ n=>
        simp only [mW];cases an:v.testBit i with
        | true=>
          rw [f7 C];exact II A h n (e8 i vs) ag (fun u hu=>lB u (ag3.1 hu).1) v (ag3.2 ⟨ar,an⟩)
        | false=>
          rw [d7 bc];exact II A h n (e9 i vs) ag (fun u hu=>lB u (ag3.1 hu).1) v (ag3.2 ⟨ar,by rw [an];rfl⟩)
inductive jk (g:List bs) (v:Nat):Nat→List Int→Nat→Prop
 | leaf {j:Nat} {x:bs}:g[j]? = some x→¬ x.atom≥0→jk g v j x.ms 0
 | test {j k:Nat} {x:bs} {ms:List Int} {s:Nat}:g[j]? = some x→x.atom≥0→(if v.testBit x.atom.toNat then x.yes else x.no)=(k:Int)→jk g v k ms s→jk g v j ms (s+1)
theorem jk.leads {g:List bs} {v j:Nat} {ms:List Int} {s:Nat} (h:jk g v j ms s):∀ (f n:Nat),s≤f→(rv g v f (j:Int) n).2=n+s∧(s<f→(g.getD (rv g v f (j:Int) n).1.toNat default).ms=ms):=by
 induction h with
 | leaf aI aO=>
  rename_i j x;intro f n aX;have ay:g.getD (j:Int).toNat default=x:=by rw [i9,d5,aI];rfl
  cases f with
  | zero=>rw [rv];exact ⟨rfl,fun h=>absurd h ag⟩
  | succ f=>rw [rv,ay,d7 aO];exact ⟨rfl,fun _=>by rw [ay]⟩
 | test aI aO aA _ aW=>
  rename_i j k x ms s _;intro f n aX;have ay:g.getD (j:Int).toNat default=x:=by rw [i9,d5,aI];rfl
  cases f with
  | zero=>omega
  | succ f=>
   rw [rv,ay,f7 aO,aA];obtain ⟨aa,ad⟩:=aW f (n+1) ag;exact ⟨by omega,fun h=>ad ag⟩
def ka (g:List bs):bF→Nat→Nat→Prop
 | .leaf ms,fT,j=>fT≤j∧g[j]? = some ⟨-1,0,0,ms⟩
 | .test i a b,fT,j=>fT≤j∧∃ x y:Nat,g[j]? = some ⟨i,x,y,[]⟩∧ka g a (j+1) x∧ka g b (j+1) y
theorem ka.low {g:List bs}:∀ {t:bF} {fT lo' j:Nat},lo'≤fT→ka g t fT j→ka g t lo' j
 | .leaf _,fT,lo',j,h,aE=>by rw [ka] at aE ⊢;exact ⟨by omega,aE.2⟩
 | .test _ _ _,fT,lo',j,h,aE=>by rw [ka] at aE ⊢;exact ⟨by omega,aE.2⟩
theorem ka.ext {g g':List bs}:∀ {t:bF} {fT j:Nat},(∀ k,fT≤k→k<g.length→g'[k]? = g[k]?)→ka g t fT j→ka g' t fT j
  | .leaf _,fT,j,h,aE=>by
    rw [ka] at aE ⊢;exact ⟨aE.1,by rw [h j aE.1 (t7.1 aE.2).1];exact aE.2⟩
  | .test i a b,fT,j,h,aE=>by
    rw [ka] at aE ⊢;obtain ⟨aa,x,y,ad,aj,a8⟩:=aE;exact ⟨aa,x,y,by rw [h j aa (t7.1 ad).1];exact ad,aj.ext fun k aA=>h k ag,a8.ext fun k aA=>h k ag⟩
theorem Et:∀ (t:bF) (L:List bs),ka (bF.laid L t) t L.length L.length
  | .leaf ms,L=>by
    rw [ka,bF.laid];exact ⟨g7 _,by rw [ae' (g7 _),am'];rfl⟩
  | .test i a b,L=>by
    have aa:=qh a (L++[⟨i,0,0,[]⟩]);have ad:=qh b (bF.laid (L++[⟨i,0,0,[]⟩]) a);have jN:=a.pB;have vd:=b.pB;have bM:(L++[(⟨i,0,0,[]⟩:bs)]).length=L.length+1:=by simp
    rw [bM] at aa;have OF:=Et a (L++[⟨i,0,0,[]⟩]);have Zb:=Et b (bF.laid (L++[⟨i,0,0,[]⟩]) a);rw [bM] at OF;have mg:bF.laid L (.test i a b)=(bF.laid (bF.laid (L++[⟨i,0,0,[]⟩]) a) b).set L.length ⟨i,(L.length:Int)+1,((bF.laid (L++[⟨i,0,0,[]⟩]) a).length:Int),[]⟩:=rfl;rw [ka];refine ⟨g7 _,L.length+1,(bF.laid (L++[⟨i,0,0,[]⟩]) a).length,?_,?_,?_⟩
    · rw [mg,an1 ag];rfl
    · refine OF.ext fun k aA hQ=>?_
      rw [mg,ap1 ag,y3 b _ k hQ]
    · refine (Zb.low (lo':=L.length+1) ag).ext fun k aA hQ=>?_
      rw [mg,ap1 ag]
theorem ka.walk {g:List bs} (v:Nat):∀ {t:bF} {fT j:Nat},ka g t fT j→jk g v j (mW t v).1 (mW t v).2
  | .leaf ms,fT,j,h=>by
    rw [ka] at h;exact jk.leaf h.2 (by show ¬ ((-1:Int)≥0);omega)
  | .test i a b,fT,j,h=>by
    rw [ka] at h;obtain ⟨-,x,y,aa,ad,aj⟩:=h;simp only [mW];cases an:v.testBit i with
    | true=>
      simp only [ag5];exact jk.test (k:=y) aa (ao9 i) (by simp only [i9,an,ag5]) (aj.walk v)
    | false=>
      simp only [af7,ah9];exact jk.test (k:=x) aa (ao9 i) (by simp only [i9,an,af7,ah9]) (ad.walk v)
theorem BV:∀ (l:List bs) (i k:Nat) (a:Int),(bJ i l).1[k]? = some a→∃ b:Nat,a=(i+b:Nat)∧k≤b∧(bJ i l).2[b]? = (bJ i l).2[k]?
  | [],i,k,a,h=>by rw [bJ] at h;simp at h
  | x::r,i,k,a,h=>by
    rw [bJ] at h ⊢;simp only at h ⊢;cases k with
    | succ k=>
      rw [ai4] at h;obtain ⟨b,aa,ad,aj⟩:=BV r (i+1) k a h;exact ⟨b+1,by omega,by omega,by rw [ai4,ai4];exact aj⟩
    | zero=>
      rw [am8,ak0.injEq] at h;split at h
      · rename_i j aI
        obtain ⟨aa,ad,z,aj,a8⟩:=BO aI;rw [f4] at a8;rw [Nat.sub_zero] at aj;exact ⟨j+1,by omega,by omega,by rw [ai4,am8,aj];exact ae6 some (beq_iff_eq.1 a8.2)⟩
      · exact ⟨0,by omega,g7 _,rfl⟩
theorem Zc {g:List bs} (aq:kP g) {v j:Nat} {ms:List Int} {s:Nat} (h:jk g v j ms s):∀ a:Nat,(bJ 0 g).1[j]? = some (a:Int)→jk (bJ 0 g).2 v a ms s:=by
 induction h with
 | leaf aI aO=>
  rename_i j x;intro a ab;obtain ⟨b,aa,-,aj⟩:=BV g 0 j _ ab;have aB:=vy aq aI;unfold jR at aB;rw [d7 aO] at aB;have:b=a:=by omega
  subst this;exact jk.leaf (aj.trans aB) aO
 | test aI aO aA _ aW=>
  rename_i j k x ms s _;intro a ab;obtain ⟨b,aa,-,aj⟩:=BV g 0 j _ ab;have:b=a:=by omega
  subst this;have aB:=vy aq aI;unfold jR at aB;rw [f7 aO] at aB;have ay:=aq.eD j x aI aO;have sG:k<g.length:=by split at aA<;>omega
  obtain ⟨c,aD,-,-⟩:=rK aq sG;refine jk.test (k:=c) (aj.trans aB) aO ?_ (aW c aD);have Eu:(bJ 0 g).1.getD k 0=(c:Int):=by rw [d5,aD];rfl
  simp only;split at aA
  ·rename_i an;rw [f7 an,aA,i9,Eu]
  ·rename_i an;rw [d7 an,aA,i9,Eu]
theorem Zd {N:List bs} {n:Nat} {order:List Int} (ai:lj n order) (b9:∀ y∈order,qq N order y) {v j:Nat} {ms:List Int} {s:Nat} (h:jk N v j ms s):(j:Int)∈order→∀ q:Nat,(q:Int)=(order.length:Int)-1-placeOf order (j:Int)→jk (order.reverse.map (gU N order)) v q ms s:=by
 have cx:∀ (j:Nat) (x:bs) (q:Nat),N[j]? = some x→(j:Int)∈order→(q:Int)=(order.length:Int)-1-placeOf order (j:Int)→(order.reverse.map (gU N order))[q]? = some (gU N order (j:Int)):=fun j x q aI hm bn=>by
  obtain ⟨i,aS⟩:=af' hm;have aF:=n7 ai.nodup aS;have me:=(t7.1 aS).1;rw [aF] at bn;rw [ae7,List.getElem?_reverse ag,show order.length-1-q=i by omega,aS];rfl
 have h':∀ (j:Nat) (x:bs),N[j]? = some x→gU N order (j:Int)=if x.atom≥0 then { x with no:=(order.length:Int)-1-placeOf order x.no,yes:=(order.length:Int)-1-placeOf order x.yes } else x:=fun j x aI=>by
  unfold gU;simp only [i9,d5,aI,ae4]
 induction h with
 | leaf aI aO=>
  rename_i j x;intro hm q bn;have aa:=cx j x q aI hm bn;rw [h' j x aI,d7 aO] at aa;exact jk.leaf aa aO
 | test aI aO aA _ aW=>
  rename_i j k x ms s _;intro hm q bn;have aa:=cx j x q aI hm bn;rw [h' j x aI,f7 aO] at aa;have np:=b9 _ hm x (by rw [i9];exact aI) aO;have Ev:(k:Int)∈order:=by rw [← aA];split;exact np.2;exact np.1
  obtain ⟨i,aS⟩:=af' Ev;have aF:=n7 ai.nodup aS;have me:=(t7.1 aS).1;refine jk.test (k:=order.length-1-i) aa aO ?_ (aW Ev _ (by rw [aF];omega));simp only;split at aA
  ·rename_i an;rw [f7 an,aA,aF];omega
  ·rename_i an;rw [d7 an,aA,aF];omega
theorem OG:∀ (a b:List (List Int)) (up:List Nat),j4 up (a++b)=j4 (j4 up a) b
 | [],b,up=>rfl
 | x::a,b,up=>by rw [ab',j4,OG a b,← j4]
theorem OH:∀ (ps:List (List Int)) (up:List Nat),∃ r,j4 up ps=up++r
  | [],up=>⟨[],by rw [j4,d9]⟩
  | l::r,up=>by
    obtain ⟨t,h⟩:=OH r (up++[sl up l]);exact ⟨[sl up l]++t,by rw [j4,h,ag']⟩
theorem xG {ps:List (List Int)} {i k:Nat} (aS:i≤ps.length) (aA:k<3+i):(dM (ps.take i)).getD k 0=(dM ps).getD k 0:=by
 have h:dM ps=j4 (dM (ps.take i)) (ps.drop i):=by
  show j4 [1,3,5] ps=j4 (j4 [1,3,5] (ps.take i)) (ps.drop i);rw [← OG,List.take_append_drop]
 obtain ⟨r,aE⟩:=OH (ps.drop i) (dM (ps.take i));rw [h,aE];have aC:(dM (ps.take i)).length=3+i:=by rw [tO,ae9,am7 aS]
 rw [d5,d5,af9 ag]
theorem Ze {ps:List (List Int)} {i:Nat} {l:List Int} (aC:ps[i]? = some l):(dM ps).getD (3+i) 0=sl (dM (ps.take i)) l:=by
 have aS:=(t7.1 aC).1;rw [← xG (i:=i+1) ag ag];have:ps.take (i+1)=ps.take i++[l]:=by rw [an3,aC];rfl
 rw [this,L5,d5,ae' (by rw [tO,ae9];omega)];rw [tO,ae9,am7 ag,am'];rfl
theorem OI (up:List Nat) (k:Nat):∀ (l:List Int) (s:Nat),(l.foldl (fun s p=>s|||up.getD p.toNat 0) s).testBit k=(s.testBit k||l.any fun p=>(up.getD p.toNat 0).testBit k)
 | [],s=>by simp
 | p::r,s=>by rw [ah4,OI up k r,al7,List.any_cons,ar6]
theorem BW (k:Nat):(1:Nat).testBit k=decide (k=0):=by
 cases k with
 | zero=>rfl
 | succ k=>rw [Nat.testBit_succ];simp
theorem Zf (c k:Nat):(2^c).testBit k=decide (c=k):=Nat.testBit_two_pow
theorem zj {w:bz} (hw:fw w) {i:Nat} {l:List Int} (aC:w.ps[i]? = some l) (k:Nat):((dM w.ps).getD (3+i) 0).testBit k=(decide (k=0)||(decide (3+i=k)||l.any fun p=>((dM w.ps).getD p.toNat 0).testBit k)):=by
 have aS:=(t7.1 aC).1;rw [Ze aC,sl,OI,al7,BW,Zf];rw [show (dM (w.ps.take i)).length=3+i by rw [tO,ae9,am7 ag],ar6];congr 2;have aq:=DD hw.mL aC;rw [af0,af4,af4];constructor <;>
 ·rintro ⟨p,aF,h⟩
  obtain ⟨j,aI⟩:=af' aF;have:=DE aq aI;refine ⟨p,aF,?_⟩;have e:=xG (ps:=w.ps) (i:=i) (k:=p.toNat) ag ag
  first|rw [← e];exact h|rw [e];exact h
theorem xH {w:bz} (hw:fw w) {i:Nat} {l:List Int} (aC:w.ps[i]? = some l) {p:Int} (aF:p∈l):3≤p∧p<3+(i:Int):=by
 obtain ⟨j,aI⟩:=af' aF;have:=DE (DD hw.mL aC) aI;omega
theorem Ew {w:bz} (hw:fw w) {c:Nat} (aa:c<3+w.ps.length):((dM w.ps).getD c 0).testBit c=true:=by
 by_cases h:c<3
 ·rw [← xG (ps:=w.ps) (i:=0) (g9 _) ag,al3]
  rcases (by omega:c=0∨c=1∨c=2) with rfl|rfl|rfl<;>rfl
 ·obtain ⟨i,rfl⟩:∃ i,c=3+i:=⟨c-3,by omega⟩
  rw [zj hw (d8 ag)];simp
theorem IJ {w:bz} (hw:fw w) {c:Nat} (aa:c<3+w.ps.length):((dM w.ps).getD c 0).testBit 0=true:=by
 by_cases h:c<3
 ·rw [← xG (ps:=w.ps) (i:=0) (g9 _) ag,al3]
  rcases (by omega:c=0∨c=1∨c=2) with rfl|rfl|rfl<;>rfl
 ·obtain ⟨i,rfl⟩:∃ i,c=3+i:=⟨c-3,by omega⟩
  rw [zj hw (d8 ag)];simp
theorem xI {w:bz} {c k:Nat} (aD:c<3) (h:((dM w.ps).getD c 0).testBit k=true):k=c∨k=0:=by
 rw [← xG (ps:=w.ps) (i:=0) (g9 _) ag,al3] at h;rcases (by omega:c=0∨c=1∨c=2) with rfl|rfl|rfl
 ·rw [show (dM []).getD 0 0=1 from rfl,BW,g6] at h
  exact .inr h
 ·have:k<2:=by
   rcases ap0 k 2 with ad|ad
   ·exact ad
   ·have:=al0 (x:=3) (i:=k) (aj7 dV (ah6 dV ad))
    rw [show (dM []).getD 1 0=3 from rfl,this] at h;cases h
  omega
 ·have:k<3:=by
   rcases ap0 k 3 with ad|ad
   ·exact ad
   ·have:=al0 (x:=5) (i:=k) (aj7 dV (ah6 dV ad))
    rw [show (dM []).getD 2 0=5 from rfl,this] at h;cases h
  rcases (by omega:k=0∨k=1∨k=2) with rfl|rfl|rfl
  ·exact .inr C
  ·exact absurd h dV
  ·exact .inl C
theorem xJ {w:bz} (hw:fw w):∀ (n c k:Nat),c<n→c<3+w.ps.length→((dM w.ps).getD c 0).testBit k=true→k≤c∧(3≤c→k=0∨3≤k)
  | 0,_,_,h,_,_=>by omega
  | n+1,c,k,h,aD,an=>by
    by_cases aj:c<3
    · have:=xI aj an;omega
    · obtain ⟨i,rfl⟩:∃ i,c=3+i:=⟨c-3,by omega⟩
      obtain ⟨l,aC⟩:∃ l,w.ps[i]? = some l:=⟨_,d8 ag⟩;rw [zj hw aC] at an;simp only [ah5,g6,af4] at an;rcases an with an|an|⟨p,aF,an⟩
      · omega
      · omega
      · have aa:=xH hw aC aF
        have:=xJ hw n p.toNat k ag ag an;omega
def hX (ps:List (List Int)):Nat→(Nat→Bool)→Nat→Bool
 | 0,f=>f
 | m+1,f=>hX ps m fun k=>f k||(f (3+m)&&(ps.getD m []).contains (k:Int))
theorem Ex {w:bz} (hw:fw w):∀ (m:Nat) (f:Nat→Bool) (k:Nat),k<3→m≤w.ps.length→hX w.ps m f k=f k
  | 0,f,k,_,_=>rfl
  | m+1,f,k,aA,hm=>by
    obtain ⟨l,aC⟩:∃ l,w.ps[m]? = some l:=⟨_,d8 ag⟩;rw [hX,Ex hw m _ k aA ag,d5,aC,ae4];have:l.contains (k:Int)=false:=by
      rw [af3];intro h;have:=xH hw aC (ah0.1 h);omega
    rw [this,ak5,al9]
theorem Ey {w:bz} (hw:fw w):∀ (m:Nat) (f:Nat→Bool) (k:Nat),3≤k→m≤w.ps.length→(hX w.ps m f k=true↔f k=true∨∃ j,j<m∧f (3+j)=true∧((dM w.ps).getD (3+j) 0).testBit k=true)
  | 0,f,k,_,_=>by
    rw [hX];constructor
    · exact .inl
    · rintro (h|⟨j,h,_⟩)
      · exact h
      · omega
  | m+1,f,k,aA,hm=>by
    obtain ⟨l,aC⟩:∃ l,w.ps[m]? = some l:=⟨_,d8 ag⟩;rw [hX,Ey hw m _ k aA ag,d5,aC,ae4];have sF:=zj hw aC k;simp only [ah5,f4,ah0];constructor
    · rintro ((h|⟨aa,ad⟩)|⟨j,aI,h,an⟩)
      · exact .inl h
      · refine .inr ⟨m,am3 _,aa,?_⟩
        rw [sF];have aj:=xH hw aC ad;simp only [ah5,af4];exact .inr (.inr ⟨(k:Int),ad,by rw [i9];exact Ew hw ag⟩)
      · rcases h with h|⟨aa,ad⟩
        · exact .inr ⟨j,by omega,h,an⟩
        · refine .inr ⟨m,am3 _,aa,?_⟩
          rw [sF];simp only [ah5,af4];exact .inr (.inr ⟨((3+j:Nat):Int),ad,by rw [i9];exact an⟩)
    · rintro (h|⟨j,aI,h,an⟩)
      · exact .inl (.inl h)
      · rcases ah7.1 aI with aI|rfl
        · exact .inr ⟨j,aI,.inl h,an⟩
        · rw [sF] at an
          simp only [ah5,g6,af4] at an;rcases an with an|an|⟨p,aF,an⟩
          · omega
          · subst an;exact .inl (.inl h)
          · have aj:=xH hw aC aF
            refine .inr ⟨p.toNat-3,by omega,.inr ⟨h,?_⟩,?_⟩
            · rw [show ((3+(p.toNat-3):Nat):Int)=p by omega];exact aF
            · rw [show 3+(p.toNat-3)=p.toNat by omega];exact an
def xK (w:bz) (c:Nat):Nat→Bool:=hX w.ps (c-2) fun k=>decide (k=c)
theorem IK {w:bz} (hw:fw w) {c k:Nat} (aD:c<3+w.ps.length) (aA:1≤k):xK w c k=((dM w.ps).getD c 0).testBit k:=by
 unfold xK;by_cases aj:c<3
 ·rw [show c-2=0 by omega,hX,af0,g6]
  constructor
  ·rintro rfl;exact Ew hw aD
  ·intro h;have:=xI aj h;omega
 ·by_cases tl:k<3
  ·rw [Ex hw _ _ _ tl ag]
   rw [af0,g6];constructor
   ·omega
   ·intro h;have:=xJ hw (c+1) c k ag aD h;omega
  ·rw [af0,Ey hw _ _ _ ag ag]
   simp only [g6];constructor
   ·rintro (rfl|⟨j,aI,rfl,an⟩)
    ·exact Ew hw aD
    ·exact an
   ·intro h;exact .inr ⟨c-3,by omega,by omega,by rw [show 3+(c-3)=c by omega];exact h⟩
theorem IL {w:bz} (hw:fw w):∀ (m:Nat) (f:Nat→Bool) (k:Nat),3+m≤k→m≤w.ps.length→hX w.ps m f k=f k
  | 0,f,k,_,_=>rfl
  | m+1,f,k,aA,hm=>by
    obtain ⟨l,aC⟩:∃ l,w.ps[m]? = some l:=⟨_,d8 ag⟩;rw [hX,IL hw m _ k ag ag,d5,aC,ae4];have:l.contains (k:Int)=false:=by
      rw [af3];intro h;have:=xH hw aC (ah0.1 h);omega
    rw [this,ak5,al9]
theorem Ez (ps:List (List Int)):∀ (m:Nat) (f g:Nat→Bool),(∀ k,f k=g k)→∀ k,hX ps m f k=hX ps m g k
  | 0,f,g,h,k=>h k
  | m+1,f,g,h,k=>by
    rw [hX,hX];exact Ez ps m _ _ (fun k=>by rw [h,h]) k
theorem IM {cs:List fL} {w:bz} (hw:fw w) (pM:w.ps=cs.map fL.parents):∀ (m:Nat) (up out:List Int) (s:Int),m≤cs.length→(s∈oD cs m up out↔s∈out∨∃ j,j<m∧hX w.ps m (fun k=>up.contains (k:Int)) (3+j)=true∧s∈(cs.getD j default).bm)
  | 0,up,out,s,_=>by
    rw [oD];constructor
    · exact .inl
    · rintro (h|⟨j,h,_⟩)
      · exact h
      · omega
  | m+1,up,out,s,hm=>by
    have aC:m<cs.length:=by omega
    have gX:w.ps.length=cs.length:=by rw [pM,f8]
    have Zg:w.ps.getD m []=(cs.getD m default).parents:=by
      rw [pM,d5,d5,ae7,d8 aC];rfl
    rw [oD];have eN:((m:Int)+3)=((3+m:Nat):Int):=by omega
    rw [eN];cases hu:up.contains ((3+m:Nat):Int) with
    | true=>
      rw [f7 C,IM hw pM m _ _ s ag];have aD:∀ k,hX w.ps m (fun k=>(up++(cs.getD m default).parents).contains (k:Int)) k=hX w.ps (m+1) (fun k=>up.contains (k:Int)) k:=fun k=>by
        rw [hX];refine Ez _ _ _ _ (fun k=>?_) k;rw [ao0,hu,f5,Zg]
      simp only [aD,ae2];constructor
      · rintro ((h|h)|⟨j,aa,ad,aj⟩)
        · exact .inl h
        · exact .inr ⟨m,by omega,by rw [hX,IL hw m _ _ (g7 _) ag,hu,am1],h⟩
        · exact .inr ⟨j,by omega,ad,aj⟩
      · rintro (h|⟨j,aa,ad,aj⟩)
        · exact .inl (.inl h)
        · rcases ah7.1 aa with aa|rfl
          · exact .inr ⟨j,aa,ad,aj⟩
          · exact .inl (.inr aj)
    | false=>
      rw [d7 bc,IM hw pM m _ _ s ag];have aD:∀ k,hX w.ps (m+1) (fun k=>up.contains (k:Int)) k=hX w.ps m (fun k=>up.contains (k:Int)) k:=fun k=>by
        rw [hX];exact Ez _ _ _ _ (fun k=>by rw [hu,f6,al9]) k
      simp only [aD];constructor
      · rintro (h|⟨j,aa,ad,aj⟩)
        · exact .inl h
        · exact .inr ⟨j,by omega,ad,aj⟩
      · rintro (h|⟨j,aa,ad,aj⟩)
        · exact .inl h
        · rcases ah7.1 aa with aa|rfl
          · exact .inr ⟨j,aa,ad,aj⟩
          · rw [IL hw _ _ _ (g7 _) ag,hu] at ad
            cases ad
theorem OJ:∀ {l:List Int} {n m:Int},nX n l=some m→m=n+l.length∧∀ s,s∈l↔n≤s∧s<n+l.length
  | [],n,m,h=>by rw [nX] at h;cases h;exact ⟨by simp,fun s=>by simp⟩
  | x::r,n,m,h=>by
    rw [nX] at h;split at h
    · rename_i ab
      subst ab;obtain ⟨aa,ad⟩:=OJ h;refine ⟨by rw [i5];omega,fun s=>?_⟩;rw [ae8,ad,i5];omega
    · cases h
theorem IN:∀ {l:List fL} {i:Nat} {n m:Int},lG n l=some m→m=n+(fG i l).length∧∀ (j:Nat) (c:fL),l[j]? = some c→∀ s:Int,s∈c.bm↔n≤s∧(fG i l)[(s-n).toNat]? = some ((i:Int)+j+3)
  | [],i,n,m,h=>by rw [lG] at h;cases h;exact ⟨by simp [fG],fun j c h=>by simp at h⟩
  | x::r,i,n,m,h=>by
    rw [lG] at h;split at h
    · cases aA:nX n x.bm with
      | none=>rw [aA] at h;cases h
      | some k=>
        rw [aA,Option.bind_some] at h;obtain ⟨aa,ad⟩:=OJ aA;obtain ⟨aj,a8⟩:=IN (i:=i+1) h;refine ⟨by rw [fG,f9,ag2];push_cast;omega,fun j c aI s=>?_⟩;rw [fG];cases j with
        | zero=>
          have:x=c:=by simpa using aI
          subst this;rw [ad];constructor
          · intro au
            refine ⟨au.1,?_⟩;rw [af9 uV,au2,f7 ag];simp
          · rintro ⟨g1,g2⟩
            by_cases au:s<n+x.bm.length
            · exact ⟨g1,au⟩
            · rw [ae' uV] at g2
              have:=DF r (i+1) _ (d6 g2);omega
        | succ j=>
          rw [a8 j c (by simpa using aI)];constructor
          · rintro ⟨g1,g2⟩
            refine ⟨by omega,?_⟩;rw [ae' uV,ag2,show (s-n).toNat-x.bm.length=(s-k).toNat by omega,g2];congr 1;push_cast;omega
          · rintro ⟨g1,g2⟩
            by_cases au:s<k
            · rw [af9 uV,au2,f7 ag] at g2
              have:=ak0.inj g2;omega
            · rw [ae' uV,ag2,show (s-n).toNat-x.bm.length=(s-k).toNat by omega] at g2
              refine ⟨by omega,g2.trans ?_⟩;congr 1;push_cast;omega
    · cases h
theorem Zh {p:bN} {n:Int} (au:lG 0 p.cm=some n) (hw:fw (bY p)) {i:Nat} (aS:i<p.cm.length) (s:Int) :
  (pn p i).contains s=(decide (s≥0)&&(decide (s<n)&&((dM (bY p).ps).getD (3+i) 0).testBit ((bY p).owner.getD s.toNat 0).toNat)):=by
 obtain ⟨aa,ad⟩:=IN (i:=0) au;have gX:(bY p).ps.length=p.cm.length:=f8 _;have gd:(bY p).owner=fG 0 p.cm:=rfl;rw [af0,ah0];unfold pn pk;rw [List.mem_mergeSort,IM hw C (i+1) _ _ s ag];have aD:∀ k,hX (bY p).ps (i+1) (fun k=>[(i:Int)+3].contains (k:Int)) k=xK (bY p) (3+i) k:=fun k=>by
  unfold xK;rw [show 3+i-2=i+1 by omega];refine Ez _ _ _ _ (fun k=>?_) k;rw [af0,ah0,t6,g6];omega
 simp only [aD,f4,g6];rw [gd];constructor
 ·rintro (h|⟨j,aI,an,hm⟩)
  ·cases h
  ·have o6:j<p.cm.length:=by omega
   obtain ⟨c,BX⟩:∃ c,p.cm[j]? = some c:=⟨_,d8 o6⟩;rw [d5,BX,ae4] at hm;obtain ⟨g1,g2⟩:=(ad j c BX s).1 hm;rw [aD3] at g2;have g3:=(t7.1 g2).1;refine ⟨g1,by omega,?_⟩;rw [show (fG 0 p.cm).getD s.toNat 0=((0:Nat):Int)+(j:Int)+3 by rw [d5,g2];rfl,← IK hw ag ag];rw [show (((0:Nat):Int)+(j:Int)+3).toNat=3+j by omega];exact an
 ·rintro ⟨g1,g2,g3⟩
  obtain ⟨o,ai⟩:∃ o,(fG 0 p.cm)[s.toNat]? = some o:=⟨_,d8 ag⟩;have Nb:=DF p.cm 0 o (d6 ai);rw [show (fG 0 p.cm).getD s.toNat 0=o by rw [d5,ai];rfl] at g3;have hle:=xJ hw (3+i+1) (3+i) o.toNat ag ag g3;obtain ⟨j,aI⟩:∃ j:Nat,o=3+(j:Int):=⟨(o-3).toNat,by omega⟩;obtain ⟨c,BX⟩:∃ c,p.cm[j]? = some c:=⟨_,d8 ag⟩;refine .inr ⟨j,by omega,?_,?_⟩
  ·rw [IK hw ag ag,show 3+j=o.toNat by omega]
   exact g3
  ·rw [d5,BX,ae4]
   refine (ad j c BX s).2 ⟨g1,?_⟩;rw [aD3,ai,aI];congr 1;omega
mutual
def oS:av→Int
 | .mk _ _ _ _ _ ks=>1+kQ ks
def kQ:List av→Int
 | []=>0
 | x::r=>oS x+kQ r
end
mutual
def nz:av→Int→Int
 | .mk _ _ _ _ _ ks,fO=>pF ks fO 1
def pF:List av→Int→Int→Int
 | [],_,n=>n
 | x::r,fO,n=>if n≤fO then pF r fO (n+nz x (fO-n)) else n
end
mutual
def nA:av→Int
 | .mk _ _ _ _ _ ks=>mi 0 ks+1
def mi (m:Int):List av→Int
 | []=>m
 | x::r=>mi (max m (nA x)) r
end
theorem OK (f:av) (m:Int):nz f m=pF f.kids m 1:=by cases f;rw [nz];rfl
theorem Zi (f:av):nA f=mi 0 f.kids+1:=by cases f;rw [nA];rfl
mutual
theorem EA:∀ f:av,1≤oS f∧oS f≤(f.size:Int)
  | .mk _ _ p _ _ ks=>by
    have:=vB ks;rw [oS,av.size];push_cast;omega
theorem vB:∀ l:List av,0≤kQ l∧kQ l≤(av.iS l:Int)
  | []=>by rw [kQ];exact ⟨al1 _,by simp⟩
  | x::r=>by
    have aa:=EA x;have ad:=vB r;rw [kQ,av.iS];push_cast;omega
end
mutual
theorem IP:∀ (f:av) (fO:Int),(oS f≤fO→nz f fO=oS f)∧(oS f>fO→nz f fO>fO)∧nz f fO≤oS f∧1≤nz f fO
  | .mk _ _ _ _ _ ks,fO=>by
    rw [oS,nz];exact OL ks fO 1
theorem OL:∀ (l:List av) (fO n:Int),(n+kQ l≤fO→pF l fO n=n+kQ l)∧(n+kQ l>fO→pF l fO n>fO)∧pF l fO n≤n+kQ l∧n≤pF l fO n
  | [],fO,n=>by rw [pF,kQ];omega
  | x::r,fO,n=>by
    have aa:=IP x (fO-n);have ad:=OL r fO (n+nz x (fO-n));have aj:=EA x;have a8:=vB r;rw [pF,kQ];split<;>omega
end
theorem IQ:∀ (l:List av) (m:Int),m≤mi m l
 | [],m=>by rw [mi];exact al1 _
 | x::r,m=>by rw [mi];have:=IQ r (max m (nA x));omega
theorem EB:∀ (l:List av) (m d:Int),mi m l≤d↔m≤d∧∀ x∈l,nA x≤d
  | [],m,d=>by rw [mi];simp
  | x::r,m,d=>by
    rw [mi,EB r];constructor
    · rintro ⟨aa,ad⟩
      refine ⟨by omega,fun y ax=>?_⟩;rcases ae8.1 ax with rfl|ax
      · omega
      · exact ad y ax
    · rintro ⟨aa,ad⟩
      exact ⟨by have:=ad x i6;omega,fun y ax=>ad y (i0 _ ax)⟩
mutual
theorem IS:∀ f:av,1≤nA f∧nA f≤(f.size:Int)
  | .mk _ _ p _ _ ks=>by
    have aa:=EB ks 0 (av.iS ks:Int);have ad:=IQ ks 0;rw [nA,av.size]
    have:mi 0 ks≤(av.iS ks:Int):=aa.2 ⟨by omega,fun x ab=>by
      have:=OM ks x ab
      have:=av.h5 ab
      omega⟩
    push_cast;omega
theorem OM:∀ (l:List av),∀ x∈l,1≤nA x∧nA x≤(x.size:Int)
  | y::r,x,h=>by
    rcases ae8.1 h with h|h
    · rw [h];exact IS y
    · exact OM r x h
end
mutual
theorem ON:∀ (f:av) (w:bz) (d:Nat) (k:Int),((e2 w d k f).1=true↔oS f≤k∧nA f≤d∧gy w f=true)∧((e2 w d k f).1=true→(e2 w d k f).2=k-oS f)
  | .mk o a p c n ks,w,d,k=>by
    have au:=vB ks;have ay:=IQ ks 0;rw [e2,oS,nA,gy];split
    · rename_i h
      simp only [ah5,g6] at h;refine ⟨⟨fun h=>oa,fun ⟨aa,ad,_⟩=>by omega⟩,fun h=>oa⟩
    · rename_i h
      simp only [ah5,g6,not_or] at h;have aW:=OO ks w (d-1) (k-1) ag;have e:mi 0 ks≤((d-1:Nat):Int)↔mi 0 ks+1≤(d:Int):=by omega
      split
      · rename_i aB
        rw [aB,f5];refine ⟨?_,fun h=>by rw [aW.2 h];omega⟩;rw [aW.1];constructor
        · rintro ⟨aa,ad,aj⟩;exact ⟨by omega,e.1 ad,aj⟩
        · rintro ⟨aa,ad,aj⟩;exact ⟨by omega,e.2 ad,aj⟩
      · rename_i aB
        refine ⟨⟨fun h=>oa,fun ⟨_,_,h⟩=>?_⟩,fun h=>oa⟩;rw [f4] at h;exact absurd h.1 aB
theorem OO:∀ (l:List av) (w:bz) (d:Nat) (k:Int),0≤k→((ha w d k l).1=true↔kQ l≤k∧mi 0 l≤d∧j5 w l=true)∧((ha w d k l).1=true→(ha w d k l).2=k-kQ l)
  | [],w,d,k,aA=>by
    rw [ha,kQ,mi,j5];exact ⟨⟨fun _=>⟨aA,by omega,rfl⟩,fun _=>rfl⟩,fun _=>by simp⟩
  | x::r,w,d,k,aA=>by
    have ab:=ON x w d k;have aF:=EA x;have aE:=vB r;rw [ha,kQ,j5,EB];split
    · rename_i h
      obtain ⟨aa,ad,aj⟩:=ab.1.1 h;have he:=ab.2 h;rw [he];have aW:=OO r w d (k-oS x) ag;refine ⟨?_,fun h=>by rw [aW.2 h];omega⟩;rw [aW.1,aj,f5,EB];constructor
      · rintro ⟨df,a2,a3⟩
        refine ⟨by omega,⟨a2.1,fun y ax=>?_⟩,a3⟩;rcases ae8.1 ax with rfl|ax
        · exact ad
        · exact a2.2 y ax
      · rintro ⟨df,a2,a3⟩
        exact ⟨by omega,⟨a2.1,fun y ax=>a2.2 y (i0 _ ax)⟩,a3⟩
    · rename_i h
      refine ⟨⟨fun h=>oa,fun ⟨df,a2,a3⟩=>?_⟩,fun h=>oa⟩;rw [f4] at a3;exact absurd (ab.1.2 ⟨by omega,a2.2 x i6,a3.1⟩) h
end
theorem Zj (w:bz) (f:av):(decide (nz f 24≤24)&&(decide (nA f≤12)&&gy w f))=ig w f:=by
 have aa:=(ON f w 12 24).1;have ad:=IP f 24;have aj:nz f 24≤24↔oS f≤24:=by omega
 unfold ig;rw [af0,aa];simp only [f4,g6,aj];simp
theorem OP (f:av):aV d0 134 [f.cj] (.bool f.cU):=by
 have an:=bE;refine aV.bl al Tryz.func134 C C fun s I=>?_
 rw [av.cG]
 repeat' (first|(with_reducible first|apply af.seq|apply b0|apply af.ret)|refine cY C ?_|refine af.cH ?_|refine ae.nil ?_|refine cF C ?_|refine ae.skip C C C ?_|(fail_if_success refine ae.same true C ?_);(fail_if_success refine ae.same false C ?_);refine ae.gY C C (fun h=>?_) (fun h=>?_))
 all_goals (refine Fin.cE I C (aZ.of_eq (ae6 ah.bool ?_));clear I;unfold av.cU;grind)
theorem Zk (w:bz) (c:Int) (hw:w.ps.length≤60):aV d0 140 [eI w,.int .i64 c] (.bool (decide (c≥3)&&decide (c<3+(w.ps.length:Int)))):=by
 have an:=bE;refine aV.bl al Tryz.func140 C C fun s I=>?_
 unfold eI eX dd bj;have da:ac' .i64 (3+((w.ps.map bj).length:Int))=3+(w.ps.length:Int):=by rw [f8,ev ag ag]
 unfold bj at da
 repeat' (first|(with_reducible first|apply af.seq|apply b0|apply af.ret)|refine cY C ?_|refine af.cH ?_|refine ae.nil ?_|refine cF C ?_|refine ae.skip C C C ?_|(fail_if_success refine ae.same true C ?_);(fail_if_success refine ae.same false C ?_);refine ae.gY C C (fun h=>?_) (fun h=>?_))
 all_goals exact Fin.cE I C (aZ.of_eq rh)
theorem Zl (w:bz) (c:Int) (hw:w.ps.length≤60):aV d0 132 [eI w,.int .i64 c] (.bool (decide (c≥0)&&decide (c<3+(w.ps.length:Int)))):=by
 have an:=bE;refine aV.bl al Tryz.func132 C C fun s I=>?_
 unfold eI eX dd bj;have da:ac' .i64 (3+((w.ps.map bj).length:Int))=3+(w.ps.length:Int):=by rw [f8,ev ag ag]
 unfold bj at da
 repeat' (first|(with_reducible first|apply af.seq|apply b0|apply af.ret)|refine cY C ?_|refine af.cH ?_|refine ae.nil ?_|refine cF C ?_|refine ae.skip C C C ?_|(fail_if_success refine ae.same true C ?_);(fail_if_success refine ae.same false C ?_);refine ae.gY C C (fun h=>?_) (fun h=>?_))
 all_goals exact Fin.cE I C (aZ.of_eq rh)
theorem Zm (w:bz) (l:List Int) (aC:l.length<bx):aV d0 133 [eI w,bj l] (.bool (l.all (fun c=>decide (c≥0)&&decide (c<(w.owner.length:Int)))&&decide (l.length≤2))):=by
 have an:=bE;refine aV.bl al Tryz.func133 C C fun s I=>?_
 unfold eI eX dd bj;refine hp ?_;refine af.ck [0,1,2,7,8] C I (σ:=Nat) (fun j=>[(9,.int .i64 (j:Int))]) (fun _=>[]) (fun j=>j≤l.length∧l.all (fun c=>decide (c≥0)&&decide (c<(w.owner.length:Int)))=(l.drop j).all (fun c=>decide (c≥0)&&decide (c<(w.owner.length:Int)))) (fun j=>l.length-j) 0 ⟨g9 _,rfl⟩ (cK C) ba ?_;rintro j ⟨aI,aw⟩ I
 try simp only at aI aw I ⊢
 refine cf ?_;refine af.cond C (fun az=>?_) (fun a7=>?_);rotate_left
 ·have a7:j=l.length:=by simp at a7;omega
  rw [eE ag,ap2] at aw;rw [aw,f5];refine ew ?_;exact Fin.cE I C (aZ.of_eq rh)
 have az:j<l.length:=by simpa using az
 obtain ⟨x,ab,ch⟩:=b7 (f:=bg) az;rw [drop_cons ab,al8] at aw;unfold bg at ch;refine eh ?_;cases aa:decide (x≥0) with
 | false=>
  rw [aa,f6,f6] at aw;rw [aw,f6];refine ae.dK 15 C (by simp at aa ⊢;omega) ?_;refine fe ?_;exact br I
 | true=>
 rw [aa,f5] at aw;refine ae.dh 15 C (by simp at aa ⊢;omega) ?_;refine gj ?_;refine af.cond C (fun ad=>?_) (fun ad=>?_)
 ·rw [show decide (x<(w.owner.length:Int))=false by simp at ad ⊢;omega,f6] at aw
  rw [aw,f6];refine jK ?_;exact br I
 rw [show decide (x<(w.owner.length:Int))=true by simp at ad ⊢;omega,f5] at aw;refine fV ?_;exact bD.mk (j+1) I ⟨az,aw⟩ cA ba rn
theorem Zn:∀ (n:Nat) (f:av) (fO:Int),f.size≤n→n<bx → -bx≤fO→fO≤bx→aV d0 131 [f.cj,.int .i64 fO] (.int .i64 (nz f fO)):=by
 have an:=bE;intro n
 induction n with
 | zero=>intro f fO h;have:=f.size_eq;omega
 | succ n aW=>
 intro f fO aB jc qN mC;have iu:=f.size_eq;have hlen:=av.q5 f.kids;have Nz:=vB f.kids;refine aV.bl al Tryz.func131 C C fun s I=>?_
 rw [av.cG];refine hp ?_;refine af.ck [1,2] C I (σ:=Nat×Int) (fun q=>[(6,.int .i64 (q.1:Int)),(5,.int .i64 q.2)]) (fun _=>[]) (fun q=>q.1≤f.kids.length∧pF f.kids fO 1=pF (f.kids.drop q.1) fO q.2∧1≤q.2∧q.2+kQ (f.kids.drop q.1)≤1+kQ f.kids) (fun q=>f.kids.length-q.1) (0,1) ⟨g9 _,rfl,al1 _,al1 _⟩ (cK C) ba ?_;rintro ⟨j,m⟩ ⟨aI,aw,hm,aD⟩ I
 try simp only at aI aw hm aD I ⊢
 have Eu:=vB (f.kids.drop j);refine kG ?_;by_cases az:j<f.kids.length;rotate_left
 ·rw [eE ag,pF] at aw
  refine ae.dh 12 C cL ?_;rw [OK,aw];refine bK ?_;exact br I
 refine ae.dK 12 C cL ?_;obtain ⟨x,ab,ch⟩:=b7 (f:=av.cj) az;rw [drop_cons ab,pF] at aw;rw [drop_cons ab,kQ] at aD;rw [drop_cons ab,kQ] at Eu;refine gj ?_;refine af.cond C (fun ad=>?_) (fun ad=>?_);rotate_left
 ·rw [d7 pJ] at aw
  rw [OK,aw];refine ew ?_;exact br I
 have ad:m≤fO:=by simpa using ad
 rw [f7 ad] at aw;have fs:=av.h5 (d6 ab);have Oa:=EA x;have ac7:=(IP x (fO-m)).2.2;have ac8:=vB (f.kids.drop (j+1));have jt:=aW x (fO-m) ag ag ag ag;rw [av.cG] at jt ch;rw [show fO-m=ac' .i64 (fO-m) by rw [ev ag ag]] at jt;refine cl ?_;exact bD.mk (j+1,m+nz x (fO-m)) I ⟨az,aw,by show 1≤m+nz x (fO-m);omega,by show m+nz x (fO-m)+kQ (f.kids.drop (j+1))≤_;omega⟩ (by repeat (first|exact trivial|refine ⟨⟨_,rfl,aT⟩,?_⟩|refine ⟨⟨_,rfl,aZ.of_eq (by (first|rw [kF ag]|(rw [ev Gp Gp,ev ag ag])))⟩,?_⟩)) ba pr
theorem Zo (f:av) (aX:f.size<bx):aV d0 85 [f.cj] (.int .i64 (nz f 24)):=by
 have an:=bE;refine aV.bl al Tryz.func85 C C fun s I=>?_
 have aa:=Zn f.size f 24 (g7 _) aX ag ag;rw [av.cG] at *;refine cl ?_;exact br I
theorem Zp:∀ (n:Nat) (f:av),f.size≤n→n<bx→aV d0 86 [f.cj] (.int .i64 (nA f)):=by
 have an:=bE;intro n
 induction n with
 | zero=>intro f h;have:=f.size_eq;omega
 | succ n aW=>
 intro f aB jc;have iu:=f.size_eq;have hlen:=av.q5 f.kids;have OQ:=IS f;refine aV.bl al Tryz.func86 C C fun s I=>?_
 rw [Zi] at OQ ⊢;rw [av.cG];refine hp ?_;refine af.ck [1,7,8] C I (σ:=Nat×Int) (fun q=>[(9,.int .i64 (q.1:Int)),(3,.int .i64 q.2)]) (fun _=>[]) (fun q=>q.1≤f.kids.length∧mi 0 f.kids=mi q.2 (f.kids.drop q.1)∧0≤q.2) (fun q=>f.kids.length-q.1) (0,0) ⟨g9 _,rfl,al1 _⟩ (cK C) ba ?_;rintro ⟨j,m⟩ ⟨aI,aw,hm⟩ I
 try simp only at aI aw hm I ⊢
 refine cf ?_;refine af.cond C (fun az=>?_) (fun a7=>?_);rotate_left
 ·have a7:j=f.kids.length:=by simp at a7;omega
  rw [eE ag,mi] at aw;rw [aw] at OQ ⊢;refine ew ?_;exact Fin.cE I C (aZ.of_eq (by rw [ev ag ag]))
 have az:j<f.kids.length:=by simpa using az
 obtain ⟨x,ab,ch⟩:=b7 (f:=av.cj) az;rw [drop_cons ab,mi] at aw;have fs:=av.h5 (d6 ab);have Oa:=IS x;have jt:=aW x ag ag;rw [av.cG] at jt ch;refine ft ?_;exact bD.mk (j+1,max m (nA x)) I ⟨az,aw,by show 0≤max m (nA x);omega⟩ (by repeat (first|exact trivial|refine ⟨⟨_,rfl,aT⟩,?_⟩|refine ⟨⟨_,rfl,aZ.of_eq (by (first|rw [kF ag]|(congr 1;split<;>omega)))⟩,?_⟩)) ba pr
theorem Zq (w:bz):∀ (n:Nat) (f:av),f.size≤n→n<bx→gy w f=true→aV d0 137 [f.cj] (.int .i64 (iV f)):=by
 have an:=bE;intro n
 induction n with
 | zero=>intro x h;have:=x.size_eq;omega
 | succ n aW=>
  intro f aB jc aq;refine aV.bl al Tryz.func137 C C fun s I=>?_
  have iu:=f.size_eq;have hlen:=av.q5 f.kids;have hr:=OP f;rw [oC,f4] at aq;rw [av.cG] at hr ⊢;rw [yH];have aO:f.cU=true→ac' .i64 (f.arg+1)=f.arg+1:=fun aC=>by
   have aB:=aq.1;simp only [hM,aC,ag5,f4,g6] at aB;exact ev ag ag
  cases aC:f.cU with
  | true=>
   rw [aC] at hr;refine cl ?_;refine af.ck [1,12,13] C I (σ:=Nat) (fun j=>[(14,.int .i64 (j:Int)),(3,.int .i64 (hb (if f.cU then f.arg+1 else 0) (f.kids.take j)))]) (fun _=>[]) (fun j=>j≤f.kids.length) (fun j=>f.kids.length-j) 0 (g9 _) yO ba ?_;rintro j aI I;refine cf ?_;refine af.cond C (fun az=>?_) (fun a7=>?_);rotate_left
   ·have a7:j=f.kids.length:=by simp at a7;omega
    subst a7;rw [af1];refine ew ?_;exact Fin.cE I C (aZ.of_eq (by rw [aC]))
   have az:j<f.kids.length:=by simpa using az
   obtain ⟨k,aA,eF⟩:=b7 (f:=av.cj) az;have hm:=av.h5 (d6 aA);have aD:=aW k ag ag (kl aq.2 (d6 aA));rw [av.cG] at eF aD;refine ft ?_;refine bD.mk (j+1) I az yN ba pr
  | false=>
   rw [aC] at hr;refine cl ?_;refine af.ck [1,12,13] C I (σ:=Nat) (fun j=>[(14,.int .i64 (j:Int)),(3,.int .i64 (hb (if f.cU then f.arg+1 else 0) (f.kids.take j)))]) (fun _=>[]) (fun j=>j≤f.kids.length) (fun j=>f.kids.length-j) 0 (g9 _) yO ba ?_;rintro j aI I;refine cf ?_;refine af.cond C (fun az=>?_) (fun a7=>?_);rotate_left
   ·have a7:j=f.kids.length:=by simp at a7;omega
    subst a7;rw [af1];refine ew ?_;exact Fin.cE I C (aZ.of_eq (by rw [aC]))
   have az:j<f.kids.length:=by simpa using az
   obtain ⟨k,aA,eF⟩:=b7 (f:=av.cj) az;have hm:=av.h5 (d6 aA);have aD:=aW k ag ag (kl aq.2 (d6 aA));rw [av.cG] at eF aD;refine ft ?_;refine bD.mk (j+1) I az yN ba pr
def xL (w:bz) (f:av):Bool:=
 if f.op=2 then decide (f.n=0)&&(decide (f.cls≥0)&&decide (f.cls<3+(w.ps.length:Int)))
 else if f.op=3∨f.op=4 then decide (f.cls=0)&&j3 f.n
 else decide (f.op=1∨5≤f.op∧f.op≤7)
def vC (w:bz) (f:av):Bool:=
 decide (f.kids.length=q6 f.op)&&(decide (f.arg≥0)&&(decide (f.arg<3)&&(f.path.all (fun c=>decide (c≥0)&&decide (c<(w.owner.length:Int)))&&(decide (f.path.length≤2) &&
  (f.cU||(decide (f.arg=0)&&(decide (f.path.length=0)&&(decide (f.cls=0)&&decide (f.n=0)))))))))
theorem Zr (w:bz) (f:av):hM w f=(xL w f&&vC w f):=by
 rw [af0];unfold hM xL vC av.cU j3;simp only [f4,ah5,g6,af5];grind
theorem Zs (w:bz) (hw:w.ps.length≤60):∀ (n:Nat) (f:av),f.size≤n→n<bx→aV d0 87 [eI w,f.cj] (.bool (gy w f)):=by
  have an:=bE;intro n
  induction n with
  | zero=>intro x h;have:=x.size_eq;omega
  | succ n aW=>
    intro f aB jc;refine aV.bl al Tryz.func87 C C fun s I=>?_
    have iu:=f.size_eq;have hlen:=av.q5 f.kids;have ad:=OP f;have aj:=Zm w f.path ag;have a8:=Zl w f.cls hw;rw [oC,Zr];rw [av.cG] at ad ⊢;unfold eI eX dd bj at aj a8 ⊢;refine af.seq ?_
    (repeat (first|with_reducible apply b0|refine cY C ?_|refine af.cH ?_|refine ae.nil ?_|refine cF C ?_));refine af.seq ?_
    (repeat (first|with_reducible apply b0|refine cY C ?_|refine af.cH ?_|refine ae.nil ?_|refine cF C ?_));refine af.seq (af.Ug (σ:=Unit) (fun _=>[(2,.bA [.aG 1 (w.ps.map fun l => .aG 1 (l.map bg) .bd) .bd,.aG 1 (w.owner.map bg) .bd] 0),(3,.bA f.cells 0),(5,.int .i64 (q6 f.op))]) (fun _=>[]) (fun _=>xL w f=true) ?_ ?_)
    · repeat' (first|(with_reducible first|apply af.seq|apply b0|apply fp|apply gZ|apply af.ret|apply af.skip|apply af.block)|refine cY C ?_|refine af.cH ?_|refine ae.nil ?_|refine af.fx C ?_|refine cF C ?_|refine ae.skip C C C ?_|refine ae.dL C C C C C cp ?_|(fail_if_success refine ae.same true C ?_);(fail_if_success refine ae.same false C ?_);refine ae.gY C C (fun h=>?_) (fun h=>?_)|refine af.cond C (fun h=>?_) (fun h=>?_))
      all_goals first
        | (have key:xL w f=false:=by
            clear aW I ad aj a8 aB iu
            unfold xL j3
            grind
           exact Fin.cE I C (aZ.of_eq (by rw [key];rfl)))
        | (have key:xL w f=true:=by
            clear aW I ad aj a8 aB iu
            unfold xL j3
            grind
           exact Dn.mk () I key (by repeat (first|exact trivial|refine ⟨⟨_,rfl,aT⟩,?_⟩|refine ⟨⟨_,rfl,aZ.of_eq (by (congr 1;clear aW I ad aj a8 aB iu;unfold q6;grind))⟩,?_⟩)) .nil)
    rintro _ ai I;unfold av.cells;rw [ai,f5]
    have bk:∀ b,f.cU=b→vC w f=(decide (f.kids.length=q6 f.op)&&(decide (f.arg≥0)&&(decide (f.arg<3)&&(f.path.all (fun c=>decide (c≥0)&&decide (c<(w.owner.length:Int)))&&(decide (f.path.length≤2) &&
      (b||(decide (f.arg=0)&&(decide (f.path.length=0)&&(decide (f.cls=0)&&decide (f.n=0)))))))))):=fun b an=>(by unfold vC;rw [an])
    cases aC:f.cU with
    | true=>
      rw [aC] at ad;have bk:=bk _ aC
      repeat' (first|(with_reducible first|apply af.seq|apply b0|apply fU|apply af.ret|apply af.skip|apply af.block)|refine cY C ?_|refine af.cH ?_|refine ae.nil ?_|refine af.fx C ?_|refine af.gI C ?_|refine cF C ?_|refine ae.skip C C C ?_|refine ae.dL C C C C C cp ?_|(fail_if_success refine ae.same true C ?_);(fail_if_success refine ae.same false C ?_);refine ae.gY C C (fun h=>?_) (fun h=>?_)|refine af.cond C (fun h=>?_) (fun h=>?_))
      all_goals first
        | (have key:vC w f=false:=by
            clear aW I ad aj a8 aB iu
            rw [bk]
            simp only [f8] at *
            grind
           exact Fin.cE I C (aZ.of_eq (by rw [key];rfl)))
        | skip
      · have key:vC w f=true:=by
          clear aW I ad aj a8 aB iu;rw [bk];simp only [f8] at *;grind
        rw [key,f5];clear key;skip;refine af.ck [2,3,92,93] C I (σ:=Nat) (fun j=>[(94,.int .i64 (j:Int))]) (fun _=>[]) (fun j=>j≤f.kids.length∧j5 w f.kids=j5 w (f.kids.drop j)) (fun j=>f.kids.length-j) 0 ⟨g9 _,rfl⟩ (cK C) ba ?_;rintro j ⟨aI,aw⟩ I
        try simp only at aI aw I ⊢
        refine cf ?_;refine af.cond C (fun az=>?_) (fun a7=>?_);rotate_left
        · have a7:j=f.kids.length:=by simp at a7;omega
          rw [eE ag,j5] at aw;rw [aw];refine ew ?_;exact br I
        have az:j<f.kids.length:=by simpa using az
        obtain ⟨x,ab,ch⟩:=b7 (f:=av.cj) az;rw [drop_cons ab,j5] at aw;have fs:=av.h5 (d6 ab);have jt:=aW x ag ag;rw [av.cG] at jt ch;unfold eI eX dd bj at jt;cases aq:gy w x with
        | false=>
          rw [aq,f6] at aw;rw [aq] at jt;rw [aw];refine ft ?_;exact br I
        | true=>
          rw [aq,f5] at aw;rw [aq] at jt;refine ft ?_;exact bD.mk (j+1) I ⟨az,aw⟩ cA ba pr
    | false=>
      rw [aC] at ad;have bk:=bk _ aC
      repeat' (first|(with_reducible first|apply af.seq|apply b0|apply fU|apply af.ret|apply af.skip|apply af.block)|refine cY C ?_|refine af.cH ?_|refine ae.nil ?_|refine af.fx C ?_|refine cF C ?_|refine ae.skip C C C ?_|refine ae.dL C C C C C cp ?_|(fail_if_success refine ae.same true C ?_);(fail_if_success refine ae.same false C ?_);refine ae.gY C C (fun h=>?_) (fun h=>?_)|refine af.cond C (fun h=>?_) (fun h=>?_))
      all_goals first
        | (have key:vC w f=false:=by
            clear aW I ad aj a8 aB iu
            rw [bk]
            simp only [f8] at *
            grind
           exact Fin.cE I C (aZ.of_eq (by rw [key];rfl)))
        | skip
      · have key:vC w f=true:=by
          clear aW I ad aj a8 aB iu;rw [bk];simp only [f8] at *;grind
        rw [key,f5];clear key;skip;refine af.ck [2,3,92,93] C I (σ:=Nat) (fun j=>[(94,.int .i64 (j:Int))]) (fun _=>[]) (fun j=>j≤f.kids.length∧j5 w f.kids=j5 w (f.kids.drop j)) (fun j=>f.kids.length-j) 0 ⟨g9 _,rfl⟩ (cK C) ba ?_;rintro j ⟨aI,aw⟩ I
        try simp only at aI aw I ⊢
        refine cf ?_;refine af.cond C (fun az=>?_) (fun a7=>?_);rotate_left
        · have a7:j=f.kids.length:=by simp at a7;omega
          rw [eE ag,j5] at aw;rw [aw];refine ew ?_;exact br I
        have az:j<f.kids.length:=by simpa using az
        obtain ⟨x,ab,ch⟩:=b7 (f:=av.cj) az;rw [drop_cons ab,j5] at aw;have fs:=av.h5 (d6 ab);have jt:=aW x ag ag;rw [av.cG] at jt ch;unfold eI eX dd bj at jt;cases aq:gy w x with
        | false=>
          rw [aq,f6] at aw;rw [aq] at jt;rw [aw];refine ft ?_;exact br I
        | true=>
          rw [aq,f5] at aw;rw [aq] at jt;refine ft ?_;exact bD.mk (j+1) I ⟨az,aw⟩ cA ba pr
theorem Zt (w:bz) (hw:w.ps.length≤60) (f:av) (aX:f.size<bx):aV d0 35 [eI w,f.cj] (.bool (ig w f)):=by
 have an:=bE;refine aV.bl al Tryz.func35 C C fun s I=>?_
 have aa:=Zo f aX;have ad:=Zp f.size f (g7 _) aX;have aj:=Zs w hw f.size f (g7 _) aX;rw [← Zj];rw [av.cG] at *;unfold eI eX dd bj at *
 repeat' (first|(with_reducible first|apply af.seq|apply b0|apply af.ret)|refine cY C ?_|refine af.cH ?_|refine ae.nil ?_|refine cF C ?_|refine ae.skip C C C ?_|refine ae.dL C C C C C cp ?_|(fail_if_success refine ae.same true C ?_);(fail_if_success refine ae.same false C ?_);refine ae.gY C C (fun h=>?_) (fun h=>?_))
 all_goals (refine Fin.cE I C (aZ.of_eq (ae6 ah.bool ?_));clear I aa ad aj;grind)
def nB (n:Nat) (f:Nat→Bool):List ah:=(ah8 n).map fun k => .bool (f k)
theorem ue (n:Nat) (f:Nat→Bool):(nB n f).length=n:=by unfold nB;simp
theorem BY {n:Nat} (f:Nat→Bool) {k:Nat} (h:k<n):(nB n f)[k]? = some (.bool (f k)):=by
 unfold nB;rw [ae7,List.getElem?_range h];rfl
theorem IT {n p:Nat} {b:Bool} {g g':Nat→Bool} (h:∀ k,g' k=if k=p then b else g k):(nB n g).set p (.bool b)=nB n g':=by
 refine ap5 fun i=>?_
 rw [au4,ue];by_cases aS:i<n
 ·rw [BY _ aS,BY _ aS,h]
  by_cases e:p=i
  ·subst e;rw [f7 C,f7 aS,f7 C]
  ·rw [d7 e,d7 (fun h=>e h.symm)]
 ·rw [ak4 (by rw [ue];omega),ak4 (by rw [ue];omega)]
  split
  ·split<;>first|omega|rfl
  ·rfl
theorem Zu (n:Nat):H1 n (ah.bool false)=nB n (fun _=>false):=by
 unfold nB;rw [List.map_const',List.length_range]
theorem Zv (n:Nat) (f:Nat→Bool):(nB n f).all fb=true:=by
 unfold nB;rw [List.all_map];simp [Function.comp_def,fb]
theorem Zw {l:List Int} {j:Nat} {p:Int} (h:l[j]? = some p) (k:Int):(l.take (j+1)).contains k=((l.take j).contains k||k==p):=by
 rw [jy h,ao0,ar',List.contains_nil,al9]
theorem Zx (w:bz) (hw:fw w) (c:Nat) (aD:c<3+w.ps.length):aV d0 186 [eI w,.int .i64 (c:Int)] (.aG 1 (nB (3+w.ps.length) (xK w c)) .bd):=by
 have an:=bE;refine aV.bl al Tryz.func186 C C fun s I=>?_
 have sE:=hw.ji;unfold eI eX dd bj;have da:ac' .i64 (3+((w.ps.map fun l=>ah.aG 1 (l.map bg) .bd).length:Int))=((3+w.ps.length:Nat):Int):=by rw [f8,ev ag ag];push_cast;rfl
 refine dS ?_;refine ae.yD al I (3+w.ps.length) C C C C C C C C C C (ae6 (fun z=>some (ah.int .i64 z)) da) (ae6 (fun z=>some (ah.int .i64 z)) da) (by show _*1≤_;omega) ag (fun b I=>?_);rw [Zu] at I ⊢;refine h3 ?_;refine ae.gF al c C C C C C C C C C C aD ?_;refine ae.mK al I (nB (3+w.ps.length) fun k=>decide (k=c)) C C C C C C C C C a' (by rw [ue];show c*1+1≤_;omega) (by rw [si,aj3];exact IT fun k=>by by_cases e:k=c<;>simp [e]) (fun I=>?_);refine bK ?_;refine af.ck [2,5] C I (σ:=Nat×(Nat→Bool)) (fun q=>[(6,.int .i64 (q.1:Int))]) (fun q=>[(.own b,.box 4 (nB (3+w.ps.length) q.2))]) (fun q=>q.1≤c∧xK w c=hX w.ps (q.1-2) q.2) (fun q=>q.1) (c,fun k=>decide (k=c)) ⟨g7 _,rfl⟩ (cK C) ba ?_;rintro ⟨q,f⟩ ⟨bn,aw⟩ I
 try simp only at bn aw I ⊢
 refine cf ?_;refine af.cond C (fun a7=>?_) (fun az=>?_);rotate_left
 ·have az:q<3:=by simp at az;omega
  rw [show q-2=0 by omega,hX] at aw;refine af.uX I 5 b (n:=3+w.ps.length) (cap:=3+w.ps.length) C .here (by rw [ue]) ag ag (by rw [ah1 (by rw [ue];omega)];exact Zv _ _) (fun I=>?_);rw [ah1 (by rw [ue];omega),aw];refine ew ?_;exact br I
 have a7:3≤q:=by simp at a7;omega
 obtain ⟨m,rfl⟩:∃ m,q=3+m:=⟨q-3,by omega⟩;obtain ⟨l,aC,pX⟩:=b7 (f:=bj) (show m<w.ps.length by omega);have Zy:=fun p aF=>xH hw aC (p:=p) aF
 have ac9:=hw.short l (d6 aC);have j1:ac' .i64 (((3+m:Nat):Int)-3)=(m:Int):=by rw [ev ag ag];omega
 rw [show 3+m-2=m+1 by omega,hX,d5,aC,ae4] at aw;unfold bj at pX;refine eh ?_;refine ae.idx al m C C C C C C C C C C j1 pX C ?_;refine eh ?_
 refine af.ck [2,5,6,27,28] C I (σ:=Nat) (fun j=>[(29,.int .i64 (j:Int))]) (fun j=>[(.own b,.box 4 (nB (3+w.ps.length) fun k=>f k||(f (3+m)&&(l.take j).contains (k:Int))))]) (fun j=>j≤l.length) (fun j=>l.length-j) 0 (g9 _) (cK C) (by
  rw [show (fun k=>f k||(f (3+m)&&(l.take 0).contains (k:Int)))=f from funext fun k=>by rw [al3];simp]
  exact aJ.all _) ?_
 rintro j aI I
 try simp only at aI I ⊢
 refine cf ?_;refine af.cond C (fun az=>?_) (fun a7=>?_);rotate_left
 ·have a7:j=l.length:=by simp at a7;omega
  rw [a7,af1] at I ⊢;refine bK ?_;exact bD.mk (2+m,fun k=>f k||(f (3+m)&&l.contains (k:Int))) I ⟨by show 2+m≤c;omega,by show _=hX w.ps (2+m-2) _;rw [show 2+m-2=m by omega];exact aw⟩ (by repeat (first|exact trivial|refine ⟨⟨_,rfl,aT⟩,?_⟩|refine ⟨⟨_,rfl,aZ.of_eq (by (rw [ev ag ag];congr 1;simp only;omega))⟩,?_⟩)) ba (by show 2+m<3+m;omega)
 have az:j<l.length:=by simpa using az
 obtain ⟨p,aF,fa⟩:=b7 (f:=bg) az;have ada:=Zy p (d6 aF);unfold bg at fa;obtain ⟨g,aq⟩:∃ g,g=fun k=>f k||(f (3+m)&&(l.take j).contains (k:Int)):=⟨_,rfl⟩
 have Zz:g (3+m)=f (3+m):=by rw [aq];simp only;cases f (3+m)<;>simp
 have uf:∀ k,(f k||(f (3+m)&&(l.take (j+1)).contains (k:Int)))=if k=p.toNat then (g p.toNat||f (3+m)) else g k:=fun k=>by
  rw [Zw aF,aq];simp only;by_cases e:k=p.toNat
  ·subst e
   rw [f7 C,show ((p.toNat:Nat):Int)==p by simp;omega];cases f p.toNat<;>cases f (3+m)<;>simp
  ·rw [d7 e,show ((k:Int)==p)=false by rw [beq_eq_false_iff_ne];omega,al9]
 rw [← aq] at I ⊢;refine eh ?_;refine ae.gF al p.toNat C C C C C C C C C ag ag ?_;obtain ⟨v,ar⟩:∃ v,v=g p.toNat:=⟨_,rfl⟩;refine ae.lF al I C C C C C C a' C (v := .bool v) (by rw [ar,aj3];exact BY g ag) ?_;cases v with
 | true=>
  refine et ?_;refine ae.gF al p.toNat C C C C C C C C C ag ag ?_;refine ae.mK al I (nB (3+w.ps.length) fun k=>f k||(f (3+m)&&(l.take (j+1)).contains (k:Int))) C C C C C C C C C a' (by rw [ue];show p.toNat*1+1≤_;omega) (by rw [si,aj3];exact IT fun k=>by rw [uf,← ar,am1]) (fun I=>?_);refine hC ?_;exact bD.mk (j+1) I az cA ba rn
 | false=>
  refine er ?_;refine ae.gF al (3+m) C C C C C C C C C C ag ?_;refine ae.lF al I C C C C C C a' C (v := .bool (f (3+m))) (by rw [← Zz,aj3];exact BY g ag) ?_;refine er ?_;refine ae.gF al p.toNat C C C C C C C C C ag ag ?_;refine ae.mK al I (nB (3+w.ps.length) fun k=>f k||(f (3+m)&&(l.take (j+1)).contains (k:Int))) C C C C C C C C C a' (by rw [ue];show p.toNat*1+1≤_;omega) (by rw [si,aj3];exact IT fun k=>by rw [uf,← ar,ah2]) (fun I=>?_);refine hC ?_;exact bD.mk (j+1) I az cA ba rn
theorem OR (w:bz) (hw:fw w) (a b:Nat) (aO:a<3+w.ps.length) (kT:b<3+w.ps.length):aV d0 144 [eI w,.int .i64 (a:Int),.int .i64 (b:Int)] (.bool (((dM w.ps).getD a 0).testBit b)):=by
 have an:=bE;refine aV.bl al Tryz.func144 C C fun s I=>?_
 have sE:=hw.ji;have sF:=Zx w hw a aO;unfold eI eX dd bj at *;by_cases aa:a=b
 ·subst aa
  rw [Ew hw aO];refine dS ?_;refine ae.dK 11 C bc ?_;refine et ?_;exact br I
 have g1:((a:Int)==(b:Int))=false:=by rw [beq_eq_false_iff_ne];omega
 refine dS ?_;refine ae.dh 11 C g1 ?_;refine gj ?_;refine af.cond C (fun ad=>?_) (fun ad=>?_)
 ·have ad:b=0:=by simpa using ad
  subst ad;rw [IJ hw aO];refine gE ?_;exact br I
 have ad:b≠0:=by simpa using ad
 refine jL ?_;refine af.cond C (fun aj=>?_) (fun aj=>?_)
 ·have aj:a<3:=by simp at aj;omega
  have:((dM w.ps).getD a 0).testBit b=false:=by
   rw [af3];intro h;have:=xI aj h;omega
  rw [this];refine gE ?_;exact br I
 have iC:=BY (n:=3+w.ps.length) (xK w a) kT;refine c5 ?_;rw [← IK hw aO ag];exact br I
theorem IU (w:bz) (hw:fw w) (c bt o:Nat) (aD:c<3+w.ps.length) (ai:w.owner[bt]? = some (o:Int)):aV d0 182 [eI w,.int .i64 (c:Int),.int .i64 (bt:Int)] (.bool (((dM w.ps).getD c 0).testBit o)):=by
 have an:=bE;refine aV.bl al Tryz.func182 C C fun s I=>?_
 have sE:=hw.ji;have m':=hw.own _ (d6 ai);have lO:=OR w hw c o aD ag;have ad:(w.owner.map bg)[bt]? = some (.int .i64 (o:Int)):=by simp [ai,bg]
 unfold eI eX dd bj at *;by_cases aj:c<3
 ·have:((dM w.ps).getD c 0).testBit o=false:=by
   rw [af3];intro h;have:=xI aj h;omega
  rw [this];have a8:decide ((c:Int)≥3)=false:=by simp;omega
  refine cl ?_;refine aL.split 9 C (fun h=>by rw [a8] at h;cases h) (fun _=>?_);refine hD ?_;exact br I
 have a8:decide ((c:Int)≥3)=true:=by simp;omega
 refine cl ?_;refine aL.split 9 C (fun h=>?_) (fun h=>by rw [a8] at h;cases h);refine c5 ?_;exact br I
theorem OS (w:bz) (hw:fw w) (c:Nat) (aD:c<3+w.ps.length):aV d0 141 [eI w,.int .i64 (c:Int)] (bj (kI w ((dM w.ps).getD c 0))):=by
 have an:=bE;refine aV.bl al Tryz.func141 C C fun s I=>?_
 have gd:=hw.bm;obtain ⟨m,hm⟩:∃ m,m=(dM w.ps).getD c 0:=⟨_,rfl⟩;have cN:=fun bt o=>IU w hw c bt o aD
 rw [← hm] at cN ⊢;obtain ⟨xs,d'⟩:∃ xs:Nat→List ah,∀ j,xs j=(((ah8 j).filter fun s=>m.testBit (w.owner.getD s 0).toNat).map fun (s:Nat)=>(s:Int)).map bg:=⟨_,fun _=>rfl⟩;have bo:xs 0=[]:=by rw [d'];rfl
 have hH:∀ j,(xs j).length≤j:=fun j=>by
  rw [d',f8,f8];exact Nat.le_trans (List.length_filter_le _ _) bc
 unfold eI eX dd bj at *;refine hp ?_;refine af.jw I 3 1 0 fun I=>?_
 refine af.ck [1,2,9] C I (σ:=Nat×bV) (fun q=>[(10,.int .i64 (q.1:Int)),(5,.aG 1 (xs q.1) q.2)]) (fun q=>[(q.2,.row 3 1 (xs q.1).length)]) (fun q=>q.1≤w.owner.length) (fun q=>w.owner.length-q.1) (0,.nil) (g9 _) ⟨⟨_,rfl,aT⟩,⟨_,rfl,by rw [bo];exact aZ.nil h4⟩,trivial⟩ (by rw [bo];exact aJ.eb _) ?_;rintro ⟨j,own⟩ aI I;simp only at aI I ⊢;refine cf ?_;refine af.cond C (fun az=>?_) (fun a7=>?_);rotate_left
 ·have a7:j=w.owner.length:=by simp at a7;omega
  subst a7;have he:xs w.owner.length=(kI w m).map bg:=by rw [d'];rfl
  rw [he];refine ew ?_;exact Fin.cE I C aZ.bd
 have az:j<w.owner.length:=by simpa using az
 obtain ⟨o,ai⟩:∃ o,w.owner[j]? = some o:=⟨_,d8 az⟩;obtain ⟨g1,g2⟩:=hw.own o (d6 ai);obtain ⟨q,rfl⟩:∃ q:Nat,o=q:=⟨o.toNat,by omega⟩;have au:=d' (j+1);rw [Mx w m _ ai,ae1,← d'] at au;have lV:=hH j;have aa:=cN j q ai;refine cl ?_;refine af.cond C (fun ar=>?_) (fun ar=>?_)
 ·have au:xs (j+1)=xs j++[.int .i64 (j:Int)]:=by rw [au];simp [ar,bg]
  have db:(xs (j+1)).length=(xs j).length+1:=by rw [au];simp
  refine kG ?_;refine ae.ho al I C C C C C C C eH C C C C C C C C a' ir lC ag (fun bT I=>?_);refine hC ?_;refine bD.mk (j+1,.own bT) I az ow (by show aJ _ [(_,.row _ _ (xs (j+1)).length)] _;rw [db];exact aJ.eb _) DH
 ·have au:xs (j+1)=xs j:=by rw [au];simp [ar]
  refine fV ?_;refine bD.mk (j+1,own) I az ow (by show aJ _ [(_,.row _ _ (xs (j+1)).length)] _;rw [au];exact aJ.eb _) DH
theorem OT (n:Int):aV d0 183 [.int .i64 n] (.bool (j3 n)):=by
 have an:=bE;refine aV.bl al Tryz.func183 C C fun s I=>?_
 repeat' (first|(with_reducible first|apply af.seq|apply b0|apply af.ret)|refine cY C ?_|refine af.cH ?_|refine ae.nil ?_|refine cF C ?_|refine ae.skip C C C ?_|(fail_if_success refine ae.same true C ?_);(fail_if_success refine ae.same false C ?_);refine ae.gY C C (fun h=>?_) (fun h=>?_))
 all_goals (refine Fin.cE I C (aZ.of_eq (ae6 ah.bool ?_));clear I;unfold j3;grind)
theorem OU (p:bN) (aF:gx p):aV d0 88 [cD p] (dd (hh p)):=by
 have an:=bE;refine aV.bl al Tryz.func88 C C fun s I=>?_
 have b9:=aF.cls;obtain ⟨xs,d'⟩:∃ xs:Nat→List ah,∀ j,xs j=((p.cm.take j).map fL.parents).map bj:=⟨_,fun _=>rfl⟩;have bo:xs 0=[]:=by rw [d'];rfl
 have hH:∀ j,(xs j).length≤p.cm.length:=fun j=>by
  rw [d',f8,f8];exact List.length_take_le' _ _
 unfold dd cD cI hh;refine hp ?_;refine af.jw I 23 1 0 fun I=>?_
 refine af.ck [1] C I (σ:=Nat×bV) (fun q=>[(4,.int .i64 (q.1:Int)),(3,.aG 1 (xs q.1) q.2)]) (fun q=>[(q.2,.row 23 1 (xs q.1).length)]) (fun q=>q.1≤p.cm.length) (fun q=>p.cm.length-q.1) (0,.nil) (g9 _) ⟨⟨_,rfl,aT⟩,⟨_,rfl,by rw [bo];exact aZ.nil h4⟩,trivial⟩ (by rw [bo];exact aJ.eb _) ?_;rintro ⟨j,own⟩ aI I;simp only at aI I ⊢;refine cf ?_;refine af.cond C (fun az=>?_) (fun a7=>?_);rotate_left
 ·have a7:j=p.cm.length:=by simp at a7;omega
  subst a7;have he:xs p.cm.length=(p.cm.map fL.parents).map bj:=by rw [d',af1]
  rw [he];refine ew ?_;exact Fin.cE I C aZ.bd
 have az:j<p.cm.length:=by simpa using az
 obtain ⟨c,ax,dc⟩:=b7 (f:=jg) az;have au:=d' (j+1);rw [jy ax,ae1,ae1,← d'] at au;have au:xs (j+1)=xs j++[.aG 1 (c.parents.map bg) .bd]:=au;have db:(xs (j+1)).length=(xs j).length+1:=by rw [au];simp
 have lV:=hH j;have gX:=(aF.each c (d6 ax)).1;unfold jg nk bj at *;refine eh ?_;refine ae.q0 al C C C C C C C eH C C C (.inl C) (.inr C) C (Mi _) (by simp only [ag0,af6,f8];show _*8≤_;omega) Ha (.inl C) ?_;rw [f0];refine er ?_;refine ae.ho al I C C C C C C C eH C C C C C C C C a' ir p1 ag (fun bT I=>?_);refine hC ?_;refine bD.mk (j+1,.own bT) I az ow (by show aJ _ [(_,.row _ _ (xs (j+1)).length)] _;rw [db];exact aJ.eb _) yP
theorem EC (p:bN) (aF:gx p) (ai:(fG 0 p.cm).length<bx):aV d0 36 [cD p] (eI (bY p)):=by
 have an:=bE;refine aV.bl al Tryz.func36 C C fun s I=>?_
 have aa:=OU p aF;have b9:=aF.cls;unfold eI eX bY;simp only;unfold cD cI at *;unfold dd at *
 repeat (first|(refine TX I ?_;clear I;intro I)|refine ae.dZ al I rfl rfl rfl rfl rfl rfl rfl (fun cB I=>?_)|(refine p0 ?_))
 rename_i Bu _;obtain ⟨xu,rfl⟩:∃ x,x=cB:=⟨_,rfl⟩;refine af.wM I xu [.aG 1 ((hh p).map bj) .bd,.aG 1 [] .nil] .here (.cons aT (.one (aZ.nil h4))) (fun I=>?_);refine af.jw I 3 1 0 fun I=>?_
 refine af.ck [1,2,3] C I (σ:=Nat×bV) (fun q=>[(4,.int .i64 (q.1:Int))]) (fun q=>[(.own xu,.box 62 [.aG 1 ((hh p).map bj) .bd,.aG 1 ((fG 0 (p.cm.take q.1)).map bg) q.2]),(q.2,.row 3 1 (fG 0 (p.cm.take q.1)).length),(.own Bu,.box 62 [.aG 0 [] .nil,.aG 0 [] .nil])])
  (fun q=>q.1≤p.cm.length) (fun q=>p.cm.length-q.1) (0,.nil) (g9 _) (cK C) ba ?_
 rintro ⟨j,uE⟩ aI I;simp only at aI I ⊢;refine cf ?_;refine af.cond C (fun az=>?_) (fun a7=>?_);rotate_left
 ·have a7:j=p.cm.length:=by simp at a7;omega
  subst a7;rw [af1] at I ⊢;refine ct I ?_;intro I;exact Fin.cE I (p3 C C (bp.get a' I) C) (aZ.agg (.cons aT (.one aZ.bd)))
 have az:j<p.cm.length:=by simpa using az
 obtain ⟨c,ax,dc⟩:=b7 (f:=jg) az;have hG:=(aF.each c (d6 ax)).2.1;have aM:=NC ax;have hle:=ND p.cm (j+1);have ic:ac' .i64 ((j:Int)+3)=(j:Int)+3:=ev ag ag;rw [aM,f9,ag2] at hle;generalize fG 0 (p.cm.take j)=os at I aM hle ⊢;unfold jg nk bj at dc;refine jL ?_;refine af.ck [1,2,3,4] C I (σ:=Nat×bV) (fun q=>[(5,.int .i64 (q.1:Int))]) (fun q=>[(.own xu,.box 62 [.aG 1 ((hh p).map bj) .bd,.aG 1 ((os++H1 q.1 ((j:Int)+3)).map bg) q.2]),(q.2,.row 3 1 (os++H1 q.1 ((j:Int)+3)).length),(.own Bu,.box 62 [.aG 0 [] .nil,.aG 0 [] .nil])])
  (fun q=>q.1≤c.bm.length) (fun q=>c.bm.length-q.1) (0,uE) (g9 _) (cK C) (by simp only [List.replicate_zero,d9];exact ba) ?_
 rintro ⟨k,bT⟩ aA I;simp only at aA I ⊢;refine eh ?_;refine af.cond C (fun cT=>?_) (fun ef=>?_);rotate_left
 ·have ef:k=c.bm.length:=by simp at ef;omega
  subst ef;rw [← aM] at I ⊢;refine bK ?_;exact bD.mk (j+1,bT) I az cA ba yP
 have cT:k<c.bm.length:=by simpa using cT
 have hk:(os++H1 k ((j:Int)+3)).length=os.length+k:=by simp
 have HT:(os++H1 (k+1) ((j:Int)+3)).map bg=(os++H1 k ((j:Int)+3)).map bg++[.int .i64 (ac' .i64 ((j:Int)+3))]:=by rw [ic,ap3,← ag',ae1];rfl
 have HU:(os++H1 (k+1) ((j:Int)+3)).length=(os++H1 k ((j:Int)+3)).length+1:=by simp;omega
 refine ct I ?_;intro I;refine ae.ho al I C C C C C C C eH C C C C C C C C a' bc lC ag (fun e5 I=>?_);refine hq I ?_;intro I;exact bD.mk (k+1,.own e5) I cT (by repeat (first|exact trivial|refine ⟨⟨_,rfl,aT⟩,?_⟩|refine ⟨⟨_,rfl,aZ.of_eq (by (first|rw [kF ag]))⟩,?_⟩)) (by simp only [HU,HT];exact ba) DP
def ug (p:bN) (x:iU):Int:=
 if x.op=5 then (if 0≤x.n∧x.n<(p.dt.length:Int) then p.dt.getD x.n.toNat 0 else -1) else (so p x).getD (-1)
theorem ZA (p:bN) (next:Bool) (x:iU) (size:Int):yJ p next x size=(decide ((x.kids.length:Int)=ug p x)&&(nm p x size&&(decide (x.op≠18)||next))):=by
 unfold yJ;cases aB:nm p x size with
 | false=>simp
 | true=>
  have aA:(so p x==some (x.kids.length:Int))=decide ((x.kids.length:Int)=ug p x):=by
   rw [af0,am5,g6];unfold ug;split
   ·rename_i bB
    have aE:0≤x.n∧x.n<(p.dt.length:Int):=by
     unfold nm at aB;rw [d7 ag,d7 ag,d7 ag,d7 ag,f7 bB] at aB;simpa using aB
    rw [f7 aE];unfold so;rw [f7 bB,ak0.injEq];exact eq_comm
   ·cases aA:so p x with
    | none=>simp
    | some k=>simp;exact eq_comm
  rw [aA,f5];cases next<;>cases decide ((x.kids.length:Int)=ug p x)<;>simp
theorem OV {Q:List Int→Prop} {g:Int→Int→List Int→Option (List Int)} (isLet:Bool) (size:Int) (bo:0≤size) (aq:∀ k s out o,0≤s→Q out→g k s out=some o→Q o) :
    ∀ (ks:List Int) (i:Nat) (out o:List Int),Q out→lH g isLet size i ks out=some o→Q o
  | [],i,out,o,bn,h=>by rw [lH] at h;cases h;exact bn
  | k::r,i,out,o,bn,h=>by
    rw [lH] at h;cases aA:g k (if isLet&&i==1 then size+1 else size) out with
    | none=>rw [aA] at h;cases h
    | some n2=>
      rw [aA] at h;exact OV isLet size bo aq r (i+1) n2 o (aq k _ out n2 (by split<;>omega) bn aA) h
theorem IV {p:bN} {next:Bool} {Q:List Int→Prop} (OW:∀ (n:Nat) (size:Int) out,0≤size→Q out→Q (out.set n size)):∀ (f:Nat) (n size:Int) (out o:List Int),0≤size→Q out→visitM p next f n size out=some o→Q o
  | 0,_,_,_,_,_,_,h=>by rw [visitM] at h;cases h
  | f+1,n,size,out,o,bo,bn,h=>by
    rw [visitM] at h;split at h
    · split at h
      · exact OV _ size bo (fun k s out o au bn h=>IV OW f k s out o au bn h) _ 0 _ o (OW _ _ _ bo bn) h
      · cases h
    · cases h
theorem rO {p:bN} {next:Bool} {f:Nat} {n size:Int} {out o:List Int} (bo:0≤size) (h:visitM p next f n size out=some o):o.length=out.length:=
 IV (Q:=fun l=>l.length=out.length) (fun n s l _ aC=>by rw [ag4];exact aC) f n size out o bo C h
theorem OX {p:bN} {next:Bool} {f:Nat} {n size:Int} {out o:List Int} (bo:0≤size) (bn:∀ x∈out,-1≤x) (h:visitM p next f n size out=some o):∀ x∈o,-1≤x:=
 IV (Q:=fun l=>∀ x∈l,(-1:Int)≤x) (fun n s l au aC x ab=>by
  rcases ak9 ab with h|h
  ·exact aC x h
  ·omega) f n size out o bo bn h
theorem ZB (k:Int):aV d0 139 [.int .i64 k] (.bool (tR k)):=by
 have an:=bE;refine aV.bl al Tryz.func139 C C fun s I=>?_
 repeat' (first|(with_reducible first|apply af.seq|apply b0|apply af.ret)|refine cY C ?_|refine af.cH ?_|refine ae.nil ?_|refine cF C ?_|refine ae.skip C C C ?_|(fail_if_success refine ae.same true C ?_);(fail_if_success refine ae.same false C ?_);refine ae.gY C C (fun h=>?_) (fun h=>?_))
 all_goals (refine Fin.cE I C (aZ.of_eq (ae6 ah.bool ?_));clear I;unfold tR;grind)
theorem ZC (p:bN) (aF:gx p) (x:iU) (size:Int):aV d0 185 [cD p,jh x,.int .i64 size] (.bool (nm p x size)):=by
 have an:=bE;refine aV.bl al Tryz.func185 C C fun s I=>?_
 have b9:=aF.cls;have aa:=OT x.n;have da:ac' .i64 (3+((p.cm.map jg).length:Int))=3+(p.cm.length:Int):=by rw [f8,ev ag ag]
 unfold cD cI jh k7 bj at *
 repeat' (first|(with_reducible first|apply af.seq|apply b0|apply fU|apply fp|apply gZ|apply af.ret|apply af.skip|apply af.block)|refine cY C ?_|refine af.cH ?_|refine ae.nil ?_|refine cF C ?_|refine ae.skip C C C ?_|refine ae.dL C C C C C cp ?_|(fail_if_success refine ae.same true C ?_);(fail_if_success refine ae.same false C ?_);refine ae.gY C C (fun h=>?_) (fun h=>?_)|refine af.cond C (fun h=>?_) (fun h=>?_))
 all_goals (refine Fin.cE I C (aZ.of_eq (ae6 ah.bool ?_));clear I aa b9;unfold nm;simp only [f8] at *;first|grind|(rw [d7 (by grind),d7 (by grind),d7 (by grind),d7 (by grind),d7 (by grind)];grind))
theorem ZD (o:Int):(o=1∨o=2∨o=3∨o=6∨o=18∨o=4∨o=8∨o=17∨o=7∨o=9∨o=11∨o=12∨o=13∨o=14∨o=15∨o=16∨o=10)∨o=5∨(∀ k:Int,(k=1∨k=2∨k=3∨k=6∨k=18∨k=4∨k=8∨k=17∨k=7∨k=9∨k=11∨k=12∨k=13∨k=14∨k=15∨k=16∨k=10∨k=5)→(o==k)=false):=by
 by_cases h:o=5
 ·exact .inr (.inl h)
 ·by_cases ad:(o=1∨o=2∨o=3∨o=6∨o=18∨o=4∨o=8∨o=17∨o=7∨o=9∨o=11∨o=12∨o=13∨o=14∨o=15∨o=16∨o=10)
  ·exact .inl ad
  ·refine .inr (.inr fun k aA=>?_)
   rw [beq_eq_false_iff_ne];omega
theorem ZE (p:bN) (x:iU):aV d0 184 [cD p,jh x] (.int .i64 (ug p x)):=by
 have an:=bE;refine aV.bl al Tryz.func184 C C fun s I=>?_
 obtain ⟨op,n,kids⟩:=x;unfold jh k7 cD cI;simp only;rcases ZD op with h|rfl|h
 ·rcases h with rfl|rfl|rfl|rfl|rfl|rfl|rfl|rfl|rfl|rfl|rfl|rfl|rfl|rfl|rfl|rfl|rfl
  all_goals
   (repeat (first|(with_reducible first|apply af.seq|apply b0|apply fU|apply fp|apply gZ|apply af.ret|apply af.skip|apply af.block)|refine cY C ?_|refine af.fx C ?_|refine af.gI C ?_ ));exact Fin.cE I C (aZ.of_eq C)
 ·unfold ug
  simp only [ag5];unfold bj;by_cases bo:0≤n;rotate_left
  ·rw [d7 (fun h=>bo h.1)]
   (repeat (first|(with_reducible first|apply af.seq|apply b0|apply fU|apply fp|apply gZ|apply af.ret|apply af.skip|apply af.block)|refine cY C ?_|refine af.fx C ?_|refine af.gI C ?_ ));refine kG ?_;refine ae.dh 33 C cL ?_;refine bK ?_;exact br I
  by_cases aa:n<(p.dt.length:Int);rotate_left
  ·rw [d7 (fun h=>aa h.2)]
   (repeat (first|(with_reducible first|apply af.seq|apply b0|apply fU|apply fp|apply gZ|apply af.ret|apply af.skip|apply af.block)|refine cY C ?_|refine af.fx C ?_|refine af.gI C ?_ ));refine kG ?_;refine ae.dK 33 C cL ?_;refine gj ?_;refine af.cond C (fun h=>by simp at h;omega) (fun _=>?_);refine bK ?_;exact br I
  rw [f7 ⟨bo,aa⟩];obtain ⟨q,rfl⟩:∃ q:Nat,n=q:=⟨n.toNat,by omega⟩;obtain ⟨y,ax,dc⟩:=b7 (f:=bg) (l:=p.dt) (j:=q) ag;rw [i9,d5,ax,ae4];unfold bg at dc
  (repeat (first|(with_reducible first|apply af.seq|apply b0|apply fU|apply fp|apply gZ|apply af.ret|apply af.skip|apply af.block)|refine cY C ?_|refine af.fx C ?_|refine af.gI C ?_ ));skip;refine af.cond C (fun _=>?_) (fun h=>by simp at h;omega);refine bK ?_;exact br I
 ·have aA:ug p ⟨op,n,kids⟩ = -1:=by
   have bB:op≠5:=by have:=h 5 bc;rwa [beq_eq_false_iff_ne] at this
   unfold ug so;simp only;have ne:=fun k aA=>beq_eq_false_iff_ne.1 (h k aA)
   rw [d7 bB,d7 bB];rw [d7 (by have:=ne 1 bc;have:=ne 2 bc;have:=ne 3 bc;have:=ne 6 bc;have:=ne 18 bc;omega)];rw [d7 (by have:=ne 4 bc;have:=ne 8 bc;have:=ne 17 bc;omega)];rw [d7 (by have:=ne 7 bc;have:=ne 9 bc;have:=ne 11 bc;have:=ne 12 bc;have:=ne 13 bc;have:=ne 14 bc;have:=ne 15 bc;have:=ne 16 bc;omega)];rw [d7 (by have:=ne 10 bc;omega)];rfl
  rw [aA]
  (repeat (first|(with_reducible first|apply af.seq|apply b0|apply fU|apply fp|apply gZ|apply af.ret|apply af.skip|apply af.block)|refine cY C ?_|refine af.fx C ?_|refine af.gI C ?_|refine af.cond C (fun cN=>absurd (cN.symm.trans (h _ bc)) bc) (fun _=>?_)));exact br I
end Go.Proofs.YtnafpeohfbglmaaGreat
