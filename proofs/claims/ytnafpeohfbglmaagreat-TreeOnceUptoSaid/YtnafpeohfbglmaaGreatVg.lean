import Derived.Test.YtnafpeohfbglmaaGreatVf
import Derived.Laws.Bits64
set_option linter.unusedVariables false
set_option linter.unusedSimpArgs false
set_option maxRecDepth 100000
set_option maxHeartbeats 4000000
open Bool renaming and_eq_true→f9,and_false→ak9,eq_false_iff→af5,eq_iff_iff→af4,false_and→f6,false_eq_true→af6,false_or→ah1,or_assoc→aq8,or_eq_true→aj0,or_false→an0,true_and→f5,true_or→al9
open Int renaming le_refl→ak6,natCast_nonneg→an8,sub_zero→aD7,toNat_natCast→i9
open Go.IntKind renaming wrap→ad5
open List renaming all_cons→ak',all_eq_true→ag6,all_nil→ap3,any_eq_true→ag5,append_assoc→af9,append_nil→d7,cons_append→ad',contains_append→an',contains_cons→as5,contains_iff_mem→ah8,drop_length→aw9,drop_nil→at5,drop_replicate→az5,drop_succ_cons→ao3,drop_zero→al7,drop→as4,ext_getElem?→ar0,findIdx?_append→ay7,findIdx?_eq_none_iff→ah',findIdx?_eq_some_iff_getElem→ah3,foldl_cons→ah4,foldl_nil→av8,getD_eq_getElem?_getD→d5,getElem?_append_left→af',getElem?_append_right→af0,getElem?_cons_succ→ak0,getElem?_cons_zero→as0,getElem?_drop→ao6,getElem?_eq_getElem→f7,getElem?_eq_none→am4,getElem?_eq_some_iff→t7,getElem?_map→af3,getElem?_of_mem→ag2,getElem?_replicate→au8,getElem?_set_ne→ap2,getElem?_set_self→am2,getElem?_set→as7,getElem?_take→ai2,length_append→f8,length_cons→i0,length_drop→ai5,length_map→f0,length_nil→af7,length_replicate→ag1,length_reverse→ar8,length_set→ag3,length_take→ae8,map_append→ae1,map_cons→ae2,map_map→at1,map_nil→ah2,map_replicate→au5,map_set→ap1,map_take→ap7,mem_append_left→ai',mem_append_right→an5,mem_append→ae4,mem_cons_of_mem→i6,mem_cons_self→i8,mem_cons→af1,mem_filter→ae3,mem_of_getElem?→d6,mem_or_eq_of_mem_set→al0,mem_range→aj8,mem_singleton→t6,nil_append→d8,range→ah0,replicate_succ'→ap4,replicate→ab',set_append_right→al4,set_cons_zero→az9,set_set→aw8,take_add_one→an2,take_append_of_le_length→ah6,take_length→ae6,take_of_length_le→ag8,take_zero→al6
open Nat renaming add_mul→ak5,add_sub_cancel_left→ar',beq→af2,blt→aa',eq_of_beq_eq_true→ae0,le_refl→g9,lt_of_lt_of_le→ak8,lt_or_ge→ar6,lt_succ_iff_lt_or_eq→ah5,lt_succ_self→am1,min_eq_left→am6,mul_one→ai8,pow_le_pow_right→ah7,sub_self→an6,testBit_lt_two_pow→an1,testBit_or→al5,zero_add→af8,zero_le→g8
open Option renaming getD_some→ae',some→al'
open Go.Proofs.Tryz renaming prog→d0
namespace Go.Proofs.YtnafpeohfbglmaaGreat
theorem Oa {p:Prop} (h:p:=by rw [aA,Int.toNat_natCast,List.getD_eq_getElem?_getD,List.getElem?_eq_getElem (by omega)];rfl):p:=h
theorem tR {p:Prop} (h:p:=by show p.methods.length-(j+1)<p.methods.length-j;omega):p:=h
theorem qj {p:Prop} (h:p:=by show x.kids.length-(j+1)<x.kids.length-j;omega):p:=h
theorem BA {p:Prop} (h:p:=by (rw [ee (by omega) (by omega),Yp])):p:=h
theorem BB {p:Prop} (h:p:=by show (_+1)*80≤_;omega):p:=h
theorem Ob {n:Int} (h:0≤n) (ad:n<18446744073709551616):ad5 .u64 n=n:=by
 rw [IntKind.wrap_u64];omega
theorem Yq {n:Nat} (az:n<4294967296):bitsOf .and .u64 (n:Int) 4294967295=some (n:Int):=by
 have h:=uQ (m:=n) (n:=4294967295) ag ec;have e:n &&& 4294967295=n:=by
  rw [show 4294967295=2^32-1 from rfl,Nat.and_two_pow_sub_one_eq_mod,Nat.mod_eq_of_lt az]
 rw [e] at h;exact h
theorem Oc {n:Nat} (az:n<4294967296):Int.fdiv (n:Int) (2^(min (32:Int).toNat (IntKind.bits .u64)))=0:=by
 have:=r6 (m:=n) (c:=32) ag;rw [Nat.shiftRight_eq_div_pow,Nat.div_eq_of_lt ag] at this;exact this
theorem Yr (n:Nat) (az:n<4294967296):aV d0 278 [.int .u64 1,.int .u64 (n:Int)] (.cu [.int .u64 0,.int .u64 (n:Int)]):=by
 have an:=bG;refine aV.bl ai Tryz.func278 C C fun s I=>?_
 have dn:ad5 .u64 (1*(n:Int))=(n:Int):=by rw [Int.one_mul];exact Ob ag ag
 have l0:ad5 .u64 (0*(n:Int))=0:=by rw [Int.zero_mul];rfl
 refine dF ?_;refine aa.bits 1 C C C C C C ec ?_;refine hx ?_;refine aa.shr 0 C C C C C C ag ec ?_;refine hx ?_;refine aa.bits (n:Int) C C C C C C (Yq az) ?_;refine hx ?_;refine aa.shr 0 C C C C C C ag (Oc az) ?_;refine bD ?_;refine aa.shr 0 C C C C C C ag (by rw [dn];exact Oc az) ?_;refine hx ?_;refine aa.bits 0 C C C C C C (by rw [l0];decide) ?_;refine hx ?_;refine aa.shr 0 C C C C C C ag (by rw [l0];decide) ?_;refine bD ?_;refine aa.shr 0 C C C C C C ag ec ?_;refine eg ?_;exact Fin.cG I C (aU.of_eq (by rw [dn];rfl))
theorem Ys (n:Nat) (az:n<4294967296):aV d0 258 [.int .u64 1,.int .u64 (n:Int)] (.cu [.int .u64 0,.int .u64 (n:Int)]):=by
 have an:=bG;refine aV.bl ai Tryz.func258 C C fun s I=>?_
 have U:=Yr n az;refine cB ?_;exact bA I
theorem Yt (z:Int) (n m k:Nat) (h:m+k≤n) (aA:k≤m):((ab' m z++ab' (n-m) 0).map bb).take m++(((ab' m z++ab' (n-m) 0).map bb).drop 0).take k++((ab' m z++ab' (n-m) 0).map bb).drop (m+k)=(ab' (m+k) z++ab' (n-(m+k)) 0).map bb:=by
 rw [al7,← ap7,← ap7,← List.map_drop,← ae1,← ae1];congr 1;rw [List.take_left' ba,ah6 cP,List.take_replicate,am6 aA,List.replicate_append_replicate];congr 1;rw [List.drop_append,List.drop_eq_nil_of_le ba,d8,ag1,az5];congr 1;omega
theorem Yu (z:Int) (n:Nat) (U:1≤n) (az:n≤1000):bF d0 224 [.aB 1 [.int .i64 z] .clip,.int .i64 (n:Int)] ([]) (fun o K=>∃ b,o = .ret (eh b n n)∧K=[(.own b,.box 3 ((ab' n z).map bb))]):=by
 have an:=bG;refine bF.bl ai Tryz.func224 C C fun s I=>?_
 have hm:=Ys n ag;have dn:ad5 .u64 (n:Int)=(n:Int):=Ob ag ag;have ig:ad5 .i64 (n:Int)=(n:Int):=ee ag ag;have hm:aV d0 258 [.int .u64 (ad5 .u64 1),.int .u64 (ad5 .u64 (n:Int))] (.cu [.int .u64 0,.int .u64 (n:Int)]):=by rw [dn];exact hm
 refine db ?_;refine ae.cond C (fun h=>by simp at h;omega) (fun _=>?_);refine db ?_;refine aa.tz ai I n C C C C C C C C C C (ae7 (fun z=>some (af.int .i64 z)) ig) (ae7 (fun z=>some (af.int .i64 z)) ig) (by show _*8≤_;omega) ag (fun b I=>?_);refine hx ?_;have bu:ab' n (af.int .i64 0)=(ab' n (0:Int)).map bb:=by rw [au5];rfl
 refine aa.Hi ai I C C C C C C C C C aZ C C C cP cP (fun I=>?_);have AQ:(ab' n (af.int .i64 0)).take 0++[af.int .i64 z]++(ab' n (af.int .i64 0)).drop (0+[af.int .i64 z].length)=(ab' 1 z++ab' (n-1) 0).map bb:=by
  rw [al6,az5];simp [bb]
 rw [AQ] at I ⊢;refine dL ?_;refine ae.b9 [7] C I (σ:=Nat) (fun m=>[(8,.int .i64 (m:Int))]) (fun m=>[(.own b,.box 3 ((ab' m z++ab' (n-m) 0).map bb))]) (fun m=>1≤m∧m≤n) (fun m=>n-m) 1 ⟨g9 _,U⟩ (cz C) a1 ?_;rintro m ⟨qL,N6⟩ I;refine kB ?_;refine aa.q1 ai C C C C C C C ?_;refine fK ?_;refine ae.cond C (fun aw=>?_) (fun aY=>?_);rotate_left
 ·have aY:m=n:=by simp at aY;omega
  subst aY;have qw:(ab' m z++ab' (m-m) 0).map bb=(ab' m z).map bb:=by simp
  rw [qw] at I ⊢;refine db ?_;exact Fin.bt I C aO a1 ⟨b,rfl,rfl⟩
 have aw:m<n:=by simp at aw;omega
 have hR:((ab' m z++ab' (n-m) 0).map bb).length=n:=by simp;omega
 refine dL ?_;refine ae.qS (fun _=>True) ai mixed C (bm.run trivial C ?_);refine bm.Hj 3 ai trivial m C C C C C C C C C C C C ag ag ag ?_;refine bm.AF 6 ai trivial m C C C C C C C C C C C ag ?_;refine bm.run trivial C ?_;refine bm.AV 7 ai I (min m (n-m)) C C C C C C C C C C C .here C C (by rw [al7,← ap7];exact Bu _) (by rw [hR];omega) (by rw [hR];omega) (fun _ => .inl trivial) (fun I=>?_);rw [Yt z n m (min m (n-m)) ag ag] at I ⊢;refine bm.run trivial C (bd.done C ?_);refine tn ?_;exact bp.mk (m+min m (n-m)) I ⟨by omega,by omega⟩ Aw a1 (by show n-(m+min m (n-m))<n-m;omega)
abbrev oD:=Int×Int×Nat
def sB (g:Int→Int→List oD) (isLet:Bool) (size:Int):Nat→List Int→List oD
 | _,[]=>[]
 | i,k::r=>g k (if isLet&&i==1 then size+1 else size)++sB g isLet size (i+1) r
def xw (p:bR) (n:Int):Bool:=decide (n≥0)&&decide (n<(p.nodes.length:Int))
def nP (p:bR):Nat→Int→Int→List oD
 | 0,n,size=>[(n,size,13)]
 | f+1,n,size=>(n,size,12-f)::(if xw p n then sB (nP p f) (decide ((p.nodes.getD n.toNat default).op=9)) size 0 (p.nodes.getD n.toNat default).kids else [])
def Ir (p:bR) (x:oD):Prop:=xw p x.1=true∧x.2.2≤12
def BC (p:bR) (next:Bool) (x:oD) (out:List Int):Option (List Int):=
 if pg p x.1 out&&decide (x.2.2≤12) then (if yI p next (p.nodes.getD x.1.toNat default) x.2.1 then some (out.set x.1.toNat x.2.1) else none) else none
def foldI (p:bR) (next:Bool):List oD→List Int→Option (List Int)
 | [],out=>some out
 | x::r,out=>(BC p next x out).bind (foldI p next r)
theorem Od (p:bR) (next:Bool):∀ (l r:List oD) (out:List Int),foldI p next (l++r) out=(foldI p next l out).bind (foldI p next r)
  | [],r,out=>rfl
  | x::l,r,out=>by
    rw [ad',foldI,foldI];cases BC p next x out with
    | none=>rfl
    | some o=>exact Od p next l r o
theorem Oe (p:bR) (next:Bool) {g:Int→Int→List oD} {h:Int→Int→List Int→Option (List Int)} (av:∀ k s out,foldI p next (g k s) out=h k s out) (isLet:Bool) (size:Int) :
    ∀ (ks:List Int) (i:Nat) (out:List Int),foldI p next (sB g isLet size i ks) out=lD h isLet size i ks out
  | [],i,out=>rfl
  | k::r,i,out=>by
    rw [sB,lD,Od,av];cases h k (if isLet&&i==1 then size+1 else size) out with
    | none=>rfl
    | some o=>exact Oe p next av isLet size r (i+1) o
theorem Of (p:bR) (next:Bool):∀ (f:Nat) (n size:Int) (out:List Int),f≤12→foldI p next (nP p f n size) out=visitM p next f n size out
  | 0,n,size,out,_=>by
    rw [nP,foldI,visitM,BC];rw [d9 ba];rfl
  | f+1,n,size,out,a7=>by
    rw [nP,foldI,visitM,BC];have ay:decide (((n,size,12-f):oD).2.2≤12)=true:=by simp
    rw [ay,Bool.and_true];cases ar:pg p n out with
    | false=>simp
    | true=>
      have fo:xw p n=true:=by
        unfold pg at ar;unfold xw;simp only [f9,i7] at ar ⊢;exact ⟨ar.1,ar.2.1⟩
      simp only [ag7,fo];cases az:yI p next (p.nodes.getD n.toNat default) size with
      | false=>simp
      | true=>
        simp only [ag7];exact Oe p next (fun k s o=>Of p next f k s o ag) _ _ _ _ _
def BD (x:oD):af := .int .i64 x.1
def BE (x:oD):af := .agg [.int .i64 x.2.1,.int .i64 (x.2.2:Int)]
def Og (fv:af) (p:bR) (dM:Nat):af := .func 260 [] [.br [fv] 0,.br (c1 p) 0,.ptr dM 0]
def xx (fv:af) (p:bR) (dM:Nat):dC := .box 306 [Og fv p dM]
def Yv {α:Type} (Go:List α→a8→Prop) (fB:a8→Prop) (fL:af→a8→Prop) (rem:List α) (o:ey) (aP:a8):Prop:=
 (o = .ret (.bool true)∧Go rem aP)∨(o = .ret (.bool false)∧fB aP)∨∃ v,o = .panic v∧fL v aP
structure Oh (dM:Nat) (p:bR) (fv:af) (Go:List oD→a8→Prop) (fB:a8→Prop) (fL:af→a8→Prop):Prop where
 call:∀ x rem K,Go (x::rem) K→di d0 fv [BD x,BE x] K (fun o aP=>(o = .ret (.bool true)∧Ir p x∧Go rem aP)∨(o = .ret (.bool false)∧fB aP)∨∃ v,o = .panic v∧fL v aP)
 rh:∀ xs K,Go xs K→∃ R,bo K (.own dM) (xx fv p dM) R
theorem Yw (p:bR) (aD:gC p) (dM:Nat) (fv:af) (Go:List oD→a8→Prop) (fB:a8→Prop) (fL:af→a8→Prop) (eo:Oh dM p fv Go fB fL):∀ (f:Nat),f≤12→∀ (n size:Int),(0≤size∧size+f≤100)→∀ (rest:List oD) (K:a8),Go (nP p f n size++rest) K →
  bF d0 260 [.int .i64 n,.agg [.int .i64 size,.int .i64 ((13-f:Nat):Int)],.br [fv] 0,.br (c1 p) 0,.ptr dM 0] K (Yv Go fB fL rest):=by
 have an:=bG;intro f
 induction f with
 | zero=>
  intro _ n size b' rest K dw;have aF:=eo.call (n,size,13) rest K dw;unfold BD BE at aF;refine bF.bl ai Tryz.func260 C C fun s I=>?_
  unfold c1;refine dF ?_;refine aa.gJ C C C C C C aF I (aI.all _) ?_ ?_
  ·rintro x aP (⟨_,av,_⟩|⟨⟨⟩,ay⟩|⟨_,⟨⟩,_⟩) I
   ·exact absurd av.2 (by show ¬ (13≤12);omega)
   ·rw [d7] at I ⊢
    refine eg ?_;exact Fin.bt I C aO (aI.all _) (.inr (.inl ⟨rfl,ay⟩))
  ·rintro x aP (⟨h,_⟩|⟨h,_⟩|⟨v,⟨⟩,aD⟩) I
   ·cases h
   ·cases h
   exact Fin.fb I aO (aI.jt (aI.all _)) (.inr (.inr ⟨_,rfl,aD⟩))
 | succ f aX=>
  intro a7 n size b' rest K dw;have ay:(13-(f+1):Nat)=12-f:=by omega
  rw [ay];rw [nP,ad'] at dw;have aF:=eo.call _ _ K dw;unfold BD BE at aF;refine bF.bl ai Tryz.func260 C C fun s I=>?_
  unfold c1;refine dF ?_;refine aa.gJ C C C C C C aF I (aI.all _) ?_ ?_
  ·rintro x aP (⟨⟨⟩,av,dw⟩|⟨⟨⟩,ay⟩|⟨_,⟨⟩,_⟩) I
   ·rw [d7] at I ⊢
    obtain ⟨fo,_⟩:=av;have fo:xw p n=true:=fo;rw [fo,g6 C] at dw;unfold xw at fo;simp only [f9,i7] at fo;obtain ⟨i,rfl⟩:∃ i:Nat,n=i:=⟨n.toNat,by omega⟩;obtain ⟨x,ab,bP⟩:=b5 (f:=jd) (l:=p.nodes) (j:=i) ag;have kY:p.nodes.getD ((i:Int)).toNat default=x:=by rw [i9,d5,ab];rfl
    rw [kY] at dw;have qc:=aD.kids x (d6 ab);unfold jd k3 bg at bP;refine bD ?_;refine ae.b9 [0,3,4,6,21,22] C I (σ:=Nat×a8) (fun q=>[(23,.int .i64 (q.1:Int))]) (fun q=>q.2) (fun q=>q.1≤x.kids.length∧Go (sB (nP p f) (decide (x.op=9)) size q.1 (x.kids.drop q.1)++rest) q.2) (fun q=>x.kids.length-q.1) (0,aP) ⟨g8 _,dw⟩ (cz C) (aI.all _) ?_;rintro ⟨j,Bh⟩ ⟨aH,y'⟩ I;simp only at aH y' I ⊢;refine b8 ?_;refine ae.cond C (fun aw=>?_) (fun aY=>?_);rotate_left
    ·have aY:j=x.kids.length:=by simp at aY;omega
     subst aY;rw [eG (g9 _),sB,d8] at y';refine ef ?_;exact Fin.bt I C aO (aI.all _) (.inl ⟨rfl,y'⟩)
    have aw:j<x.kids.length:=by simpa using aw
    obtain ⟨k,aA,eF⟩:=b5 (f:=bb) aw;rw [drop_cons aA,sB,af9] at y';obtain ⟨R,oC⟩:=eo.rh _ _ y';have cX:=di.fk (first:=[]) (args:=[.int .i64 k,.agg [.int .i64 (if decide (x.op=9)&&j==1 then size+1 else size),.int .i64 ((13-f:Nat):Int)]]) (cap:=[.br [fv] 0,.br (c1 p) 0,.ptr dM 0]) (aX ag _ _ (by split<;>omega) _ _ y');have dn:ad5 .i64 (((12-f:Nat):Int)+1)=((13-f:Nat):Int):=by rw [ee ag ag];omega
    have Eh:((j:Int)==1)=(j==1):=by rw [af4];simp;omega
    have sC:decide (x.op=9)=(x.op==9):=rfl;rw [sC,← dn] at cX;unfold c1 at cX;unfold xx Og c1 at oC;unfold bb at eF
    repeat (first|(refine uN I ?_;clear I;intro I)|refine aa.dK ai I rfl rfl rfl rfl rfl rfl rfl (fun cA I=>?_))
    cases kl:(x.op==9) with
    | false=>
     rw [kl,f6] at cX;simp only [af6,ah9] at cX;refine bD ?_;refine aa.ez ai I C C C C C C (.there oC) bZ ?_;refine cv I ?_;intro I;refine aa.gJ C C C C C C cX I (aI.there (aI.all Bh)) ?_ ?_
     ·rintro _ iH (⟨⟨⟩,BF⟩|⟨⟨⟩,ay⟩|⟨_,⟨⟩,_⟩) I
      ·refine bD ?_
       exact bp.mk (j+1,iH) I ⟨aw,by show Go (sB (nP p f) (decide (x.op=9)) size (j+1) (as4 (j+1) x.kids)++rest) iH;rw [sC,kl];exact BF⟩ ck (aI.jt (aI.all _)) qj
      ·refine e8 ?_
       exact Fin.bt I C aO (aI.jt (aI.all _)) (.inr (.inl ⟨rfl,ay⟩))
     ·rintro x aP (⟨h,_⟩|⟨h,_⟩|⟨v,⟨⟩,aD⟩) I
      ·cases h
      ·cases h
      exact Fin.fb I aO (aI.jt (aI.all _)) (.inr (.inr ⟨_,rfl,aD⟩))
    | true=>
     rw [kl,f5] at cX;refine fK ?_;cases za:(j==1) with
     | false=>
      rw [za] at cX Eh;simp only [af6,ah9] at cX;refine ae.cond C (fun h=>by rw [Eh] at h;cases h) (fun _=>?_);refine dL ?_;refine aa.ez ai I C C C C C C (.there oC) bZ ?_;refine cv I ?_;intro I;refine aa.gJ C C C C C C cX I (aI.there (aI.all Bh)) ?_ ?_
      ·rintro _ iH (⟨⟨⟩,BF⟩|⟨⟨⟩,ay⟩|⟨_,⟨⟩,_⟩) I
       ·refine bD ?_
        exact bp.mk (j+1,iH) I ⟨aw,by show Go (sB (nP p f) (decide (x.op=9)) size (j+1) (as4 (j+1) x.kids)++rest) iH;rw [sC,kl];exact BF⟩ ck (aI.jt (aI.all _)) qj
       ·refine e8 ?_
        exact Fin.bt I C aO (aI.jt (aI.all _)) (.inr (.inl ⟨rfl,ay⟩))
      ·rintro x aP (⟨h,_⟩|⟨h,_⟩|⟨v,⟨⟩,aD⟩) I
       ·cases h
       ·cases h
       exact Fin.fb I aO (aI.jt (aI.all _)) (.inr (.inr ⟨_,rfl,aD⟩))
     | true=>
      rw [za] at cX Eh;simp only [ag7] at cX;have ig:ad5 .i64 (size+1)=size+1:=ee ag ag;rw [← ig] at cX;refine ae.cond C (fun _=>?_) (fun h=>by rw [Eh] at h;cases h);refine cv I ?_;intro I;refine aa.ez ai I C C C C C C (.there oC) bZ ?_;refine cv I ?_;intro I;refine aa.gJ C C C C C C cX I (aI.there (aI.all Bh)) ?_ ?_
      ·rintro _ iH (⟨⟨⟩,BF⟩|⟨⟨⟩,ay⟩|⟨_,⟨⟩,_⟩) I
       ·refine bD ?_
        exact bp.mk (j+1,iH) I ⟨aw,by show Go (sB (nP p f) (decide (x.op=9)) size (j+1) (as4 (j+1) x.kids)++rest) iH;rw [sC,kl];exact BF⟩ ck (aI.jt (aI.all _)) qj
       ·refine e8 ?_
        exact Fin.bt I C aO (aI.jt (aI.all _)) (.inr (.inl ⟨rfl,ay⟩))
      ·rintro x aP (⟨h,_⟩|⟨h,_⟩|⟨v,⟨⟩,aD⟩) I
       ·cases h
       ·cases h
       exact Fin.fb I aO (aI.jt (aI.all _)) (.inr (.inr ⟨_,rfl,aD⟩))
   ·rw [d7] at I ⊢
    refine eg ?_;exact Fin.bt I C aO (aI.all _) (.inr (.inl ⟨rfl,ay⟩))
  ·rintro x aP (⟨h,_⟩|⟨h,_⟩|⟨v,⟨⟩,aD⟩) I
   ·cases h
   ·cases h
   exact Fin.fb I aO (aI.jt (aI.all _)) (.inr (.inr ⟨_,rfl,aD⟩))
theorem Yx (p:bR) (aD:gC p) (n size:Int) (b':0≤size∧size+12≤100):Hd d0 259 [] [.br (c1 p) 0,.br [.int .i64 n] 0,.br [.int .i64 size,.int .i64 1] 0] [] BD BE (Ir p) (nP p 12 n size):=by
 intro l Go fB fL o7 K bf;have eo:∀ dM,Oh dM p (lU l) (fun xs K=>∃ aP,K=aP++[(.own dM,xx (lU l) p dM)]∧Go xs aP) (fun K=>∃ aP,K=aP++[(.own dM,xx (lU l) p dM)]∧fB aP) (fun v K=>∃ aP,K=aP++[(.own dM,xx (lU l) p dM)]∧fL v aP):=fun dM=>by
  refine ⟨fun x rem K ⟨aP,e,av⟩=>?_,fun xs K ⟨aP,e,_⟩=>⟨aP++[],by subst e;exact bo.app aP .here⟩⟩;subst e;refine di.frame (R:=[(.own dM,xx (lU l) p dM)]) (o7 x rem aP av) (aI.jt (aI.ei aP)) ?_;rintro o lH (⟨rfl,U,h⟩|⟨rfl,h⟩|⟨v,rfl,h⟩)
  ·exact .inl ⟨rfl,U,lH,rfl,h⟩
  ·exact .inr (.inl ⟨rfl,lH,rfl,h⟩)
  ·exact .inr (.inr ⟨v,rfl,lH,rfl,h⟩)
 have hw:=fun dM=>di.fk (first:=[]) (args:=[.int .i64 n,.agg [.int .i64 size,.int .i64 1]]) (cap:=[.br [lU l] 0,.br (c1 p) 0,.ptr dM 0]) (Yw p aD dM (lU l) _ _ _ (eo dM) 12 (g9 _) n size ag [] (K++[(.own dM,xx (lU l) p dM)]) ⟨K,rfl,by rw [d7];exact bf⟩)
 refine bF.bl ai Tryz.func259 C C fun s I=>?_
 rw [d8] at I ⊢
 repeat (first|(refine Lu I ?_;clear I;intro I)|refine aa.dK ai I rfl rfl rfl rfl rfl rfl rfl (fun cA I=>?_))
 refine aa.gJ C C C C C C (hw cA) I (aI.ik (List.perm_append_singleton _ _).symm) ?_ ?_
 ·rintro x _ (⟨⟨⟩,lH,rfl,h⟩|⟨⟨⟩,lH,rfl,h⟩|⟨_,⟨⟩,_⟩) I
  all_goals rw [d7] at I ⊢
  ·refine fK ?_
   exact Fin.bt I C aO (aI.jt (aI.ei lH)) (.inl ⟨rfl,.inl h⟩)
  ·refine fK ?_
   exact Fin.bt I C aO (aI.jt (aI.ei lH)) (.inl ⟨rfl,.inr h⟩)
 ·rintro x _ (⟨h,_⟩|⟨h,_⟩|⟨v,⟨⟩,lH,rfl,h⟩) I
  ·cases h
  ·cases h
  rw [d7] at I ⊢;exact Fin.fb I aO (aI.jt (aI.ei lH)) (.inr ⟨_,rfl,h⟩)
theorem Yy (p:bR) (n size d:Int):aV d0 226 [c9 p,.int .i64 n,.agg [.int .i64 size,.int .i64 d]] (.func 259 [] [.br (c1 p) 0,.br [.int .i64 n] 0,.br [.int .i64 size,.int .i64 d] 0]):=by
 have an:=bG;refine aV.bl ai Tryz.func226 C C fun s I=>?_
 unfold c9 c1;refine gT ?_;exact bA I
theorem Oi:pS d0 277 "consort/bind.many" 335 := Df f'
theorem Oj:pS d0 279 "consort/bind.many" 336 := Df f'
theorem Ol (p:bR) (x:iS):(x.op=5∧xq x.op = .iface 279 (.agg [])∧se p x=some (p.dV.getD x.n.toNat 0))∨(∃ m,xq x.op=xp m∧se p x=some m)∨(xq x.op = .nY∧se p x=none):=by
 unfold xq se;by_cases U:x.op=5
 ·left;rw [g6 U,g6 U];exact ⟨U,rfl,rfl⟩
 rw [d9 U,d9 U];right;by_cases ad:x.op=1∨x.op=2∨x.op=3∨x.op=6∨x.op=18
 ·left;rw [g6 ad,g6 ad];exact ⟨0,rfl,rfl⟩
 rw [d9 ad,d9 ad];by_cases aj:x.op=4∨x.op=8∨x.op=17
 ·left;rw [g6 aj,g6 aj];exact ⟨1,rfl,rfl⟩
 rw [d9 aj,d9 aj];by_cases a':x.op=7∨x.op=9∨x.op=11∨x.op=12∨x.op=13∨x.op=14∨x.op=15∨x.op=16
 ·left;rw [g6 a',g6 a'];exact ⟨2,rfl,rfl⟩
 rw [d9 a',d9 a'];by_cases bz:x.op=10
 ·left;rw [g6 bz,g6 bz];exact ⟨3,rfl,rfl⟩
 right;rw [d9 bz,d9 bz];exact ⟨rfl,rfl⟩
theorem vj {m l:Int}:((some m==some l)=true)↔l=m:=by
 rw [am7,al'.injEq];exact eq_comm
def gi (ds b:Nat) (out:List Int):a8:=[(.own ds,.box 23 [eh b out.length out.length]),(.own b,.box 3 (out.map bb))]
def Yz (ds b:Nat) (len:Nat) (r:Option (List Int)) (o:ey) (K:a8):Prop:=
 ∃ out,out.length=len∧K=gi ds b out∧((o = .ret (.cu [])∧r=some out)∨(o = .panic tQ∧r=none))
theorem Om (p:bR) (aD:gC p) (adu:p.dV.all (fun n=>decide (n≥1)&&decide (n≤3))=true) (ds b:Nat) (out:List Int) (gz:out.length=p.nodes.length) (n3:p.nodes.length≤120) (n size:Int) (next:Bool) (b':0≤size∧size≤50) :
  di d0 (.func 225 [] [.br (c1 p) 0,.ptr ds 0]) [.int .i64 n,.int .i64 size,.bool next] (gi ds b out) (Yz ds b p.nodes.length (visitM p next 12 n size out)):=by
 have an:=bG;have mE:=Yy p n size 1;have ob:=Yx p aD n size ag;refine di.fk (first:=[]) (cap:=[.br (c1 p) 0,.ptr ds 0]) ?_;refine bF.bl ai Tryz.func225 C C fun s I=>?_
 rw [← Of p next 12 n size out (g9 _)];unfold c9 at mE;unfold c1 at *;unfold gi at I;refine cB ?_;refine ae.Mi I C ec ec ob .nil (fun rem K=>∃ b0,b0.length=p.nodes.length∧K=gi ds b b0∧foldI p next (nP p 12 n size) out=foldI p next rem b0) (fun _ _=>False) (fun v K=>v=tQ∧foldI p next (nP p 12 n size) out=none∧∃ b0,b0.length=p.nodes.length∧K=gi ds b b0) ⟨out,gz,rfl,rfl⟩ ?_ ?_ (fun _ _ h=>h.elim) ?_
 ·rintro s₁ x rem K ⟨b0,eY,rfl,aq⟩ I
  obtain ⟨Is,xs,It⟩:=x;unfold BD BE;unfold gi at I ⊢;rw [foldI,BC] at aq;simp only at aq;refine dY ?_;by_cases g1:Is≥0;rotate_left
  ·refine aa.da 22 C (H1 g1) ?_
   refine eg ?_;refine aa.b7 C C C C C (gY _) I .nil ?_ ?_;rotate_left
   ·rintro _ _ ⟨rfl,h⟩ I
    obtain ⟨az,rfl⟩:=gP h;rw [d8] at I ⊢;exact At.mk (gi ds b b0) I (aI.all _) ⟨rfl,(by rw [aq];simp [pg,g1]),b0,eY,rfl⟩
   rintro _ _ ⟨rfl,h⟩ I;obtain ⟨aj,rfl⟩:=gO h;rw [d8] at I ⊢;exact absurd aj ba
  obtain ⟨i,rfl⟩:∃ i:Nat,Is=i:=⟨Is.toNat,by omega⟩;refine aa.dy 22 C (g7 g1) ?_;refine ep ?_;by_cases g2:i<p.nodes.length;rotate_left
  ·refine aa.da 29 C cP ?_
   refine eg ?_;refine aa.b7 C C C C C (gY _) I .nil ?_ ?_;rotate_left
   ·rintro _ _ ⟨rfl,h⟩ I
    obtain ⟨az,rfl⟩:=gP h;rw [d8] at I ⊢;exact At.mk (gi ds b b0) I (aI.all _) ⟨rfl,(by rw [aq];simp [pg,g2]),b0,eY,rfl⟩
   rintro _ _ ⟨rfl,h⟩ I;obtain ⟨aj,rfl⟩:=gO h;rw [d8] at I ⊢;exact absurd aj ba
  refine aa.dy 29 C cP ?_;obtain ⟨z,bE⟩:∃ z,b0[i]? = some z:=⟨_,f7 ag⟩;have Iu:b0.getD i 0=z:=by rw [d5,bE];rfl
  have tA:(b0.map bb)[i*1]? = some (.int .i64 z):=by rw [ai8,af3,bE];rfl
  obtain ⟨x,ab,bP⟩:=b5 (f:=jd) (l:=p.nodes) (j:=i) g2;have Iv:p.nodes.getD i default=x:=by rw [d5,ab];rfl
  rw [i9,Iv] at aq;refine cv I ?_;intro I;refine aa.fc ai i C C C C C C C C C C ag ?_;refine aa.jY ai I C C C C C C aZ C tA ?_;refine ep ?_;have dz:pg p (i:Int) b0=decide (z<0):=by
   unfold pg;rw [i9,Iu,g7 g1,show decide ((i:Int)<(p.nodes.length:Int))=true by simp;omega];rfl
  rw [dz] at aq;by_cases g3:z<0;rotate_left
  ·refine aa.da 36 C (H1 g3) ?_
   refine eg ?_;refine aa.b7 C C C C C (gY _) I .nil ?_ ?_;rotate_left
   ·rintro _ _ ⟨rfl,h⟩ I
    obtain ⟨az,rfl⟩:=gP h;rw [d8] at I ⊢;exact At.mk (gi ds b b0) I (aI.all _) ⟨rfl,(by rw [aq];simp [g3]),b0,eY,rfl⟩
   rintro _ _ ⟨rfl,h⟩ I;obtain ⟨aj,rfl⟩:=gO h;rw [d8] at I ⊢;exact absurd aj ba
  refine aa.dy 36 C (g7 g3) ?_;rw [g7 g3,f5] at aq;refine ep ?_;refine aa.b7 C C C C C (gY _) I .nil ?_ ?_;rotate_left
  ·rintro _ _ ⟨rfl,h⟩ I
   obtain ⟨az,rfl⟩:=gP h;rw [d8] at I ⊢;exact At.mk (gi ds b b0) I (aI.all _) ⟨rfl,(by rw [aq,show decide (It≤12)=false from (by simp at az ⊢;omega)];simp),b0,eY,rfl⟩
  rintro _ _ ⟨rfl,h⟩ I;obtain ⟨aj,rfl⟩:=gO h;rw [d8] at I ⊢;have g4:It≤12:=by simp at aj;omega
  rw [g7 g4,g6 C] at aq;have Ei:Ir p ((i:Int),xs,It):=⟨by unfold xw;simp;omega,g4⟩;have sZ:eS (i*1) [.int .i64 xs] (b0.map bb)=(b0.set i xs).map bb:=by
   rw [pb,ai8,ap1];rfl
  refine cv I ?_;intro I;refine aa.fc ai i C C C C C C C C C C ag ?_;refine aa.jv ai I _ C C C C C C C C C aZ (by rw [f0];show i*1+1≤_;omega) sZ (fun I=>?_);have mV:(b0.set i xs).length=p.nodes.length:=by rw [ag3];exact eY
  have ot:=X7 p aD x xs;have vk:=X6 x.op;unfold c9 c1 jd k3 bg at ot;unfold jd k3 bg at bP;unfold yI at aq;cases i':m6 p x xs with
  | false=>
   rw [i'] at ot;rw [i',f6,d9 ba] at aq;refine dY ?_;refine aa.b7 C C C C C (gY _) I .nil ?_ ?_;rotate_left
   ·rintro _ _ ⟨rfl,h⟩ I
    obtain ⟨az,rfl⟩:=gP h;rw [d8] at I ⊢;exact At.mk (gi ds b (b0.set i xs)) I (by simp only [gi,ag3];exact a1) ⟨rfl,aq,(b0.set i xs),mV,rfl⟩
   rintro _ _ ⟨rfl,h⟩ I;obtain ⟨a',rfl⟩:=gO h;rw [d8] at I ⊢;exact absurd a' ba
  | true=>
  rw [i'] at ot;rw [i',f5] at aq;cases next with
  | true=>
   rw [al9,f5] at aq;refine dY ?_;refine aa.b7 C C C C C (gY _) I .nil ?_ ?_;rotate_left
   ·rintro _ _ ⟨rfl,h⟩ I
    obtain ⟨az,rfl⟩:=gP h;rw [d8] at I ⊢;exact At.mk (gi ds b (b0.set i xs)) I (by simp only [gi,ag3];exact a1) ⟨rfl,(absurd az ba),(b0.set i xs),mV,rfl⟩
   rintro _ _ ⟨rfl,h⟩ I;obtain ⟨a',rfl⟩:=gO h;rw [d8] at I ⊢;rcases Ol p x with ⟨bz,rB,j2⟩|⟨m,rB,j2⟩|⟨rB,j2⟩
   ·rw [rB] at vk
    rw [j2] at aq;have aH:0≤x.n∧x.n<(p.dV.length:Int):=by
     simpa [m6,bz] using i'
    obtain ⟨k,aA⟩:∃ k:Nat,x.n=k:=⟨x.n.toNat,by omega⟩;have jU:=N9 p x k (p.dV.getD x.n.toNat 0) aA Oa;unfold c9 c1 jd k3 bg at jU;refine cB ?_;refine aM.sc C C C C C C Oj jU ?_;refine jH ?_;refine aM.b7 C C C C C C (gY _) I .nil ?_ ?_;rotate_left
    ·rintro _ _ ⟨rfl,h⟩ I
     obtain ⟨az,rfl⟩:=gP h;rw [d8] at I ⊢;rw [f0] at az;refine At.mk (gi ds b (b0.set i xs)) I (by simp only [gi,ag3];exact a1) ⟨rfl,?_,_,mV,rfl⟩;rw [d9 (fun e=>absurd (vj.mp e) sk)] at aq;exact aq
    rintro _ _ ⟨rfl,h⟩ I;obtain ⟨az,rfl⟩:=gO h;rw [d8] at I ⊢;rw [f0] at az;rw [g6 (vj.mpr sk)] at aq;refine gr ?_;exact At.mk (gi ds b (b0.set i xs)) I (by simp only [gi,ag3];exact a1) ⟨Ei,_,mV,rfl,aq⟩
   ·rw [rB] at vk
    rw [j2] at aq;unfold xp at vk;have jU:=N8 m p x;unfold c9 c1 jd k3 bg at jU;refine cB ?_;refine aM.sc C C C C C C Oi jU ?_;refine jH ?_;refine aM.b7 C C C C C C (gY _) I .nil ?_ ?_;rotate_left
    ·rintro _ _ ⟨rfl,h⟩ I
     obtain ⟨az,rfl⟩:=gP h;rw [d8] at I ⊢;rw [f0] at az;refine At.mk (gi ds b (b0.set i xs)) I (by simp only [gi,ag3];exact a1) ⟨rfl,?_,_,mV,rfl⟩;rw [d9 (fun e=>absurd (vj.mp e) sk)] at aq;exact aq
    rintro _ _ ⟨rfl,h⟩ I;obtain ⟨az,rfl⟩:=gO h;rw [d8] at I ⊢;rw [f0] at az;rw [g6 (vj.mpr sk)] at aq;refine gr ?_;exact At.mk (gi ds b (b0.set i xs)) I (by simp only [gi,ag3];exact a1) ⟨Ei,_,mV,rfl,aq⟩
   ·rw [rB] at vk
    rw [j2] at aq;have aq:foldI p true (nP p 12 n size) out=none:=aq;refine cB ?_;refine aa.b7 C C C C C (gY _) I .nil ?_ ?_;rotate_left
    ·rintro _ _ ⟨rfl,h⟩ I
     obtain ⟨az,rfl⟩:=gP h;rw [d8] at I ⊢;exact At.mk (gi ds b (b0.set i xs)) I (by simp only [gi,ag3];exact a1) ⟨rfl,aq,(b0.set i xs),mV,rfl⟩
    rintro _ _ ⟨rfl,h⟩ I;obtain ⟨bz,rfl⟩:=gO h;rw [d8] at I ⊢;exact absurd bz ba
  | false=>
   rw [ah1] at aq;refine dY ?_;refine aa.b7 C C C C C (gY _) I .nil ?_ ?_;rotate_left
   ·rintro _ _ ⟨rfl,h⟩ I
    obtain ⟨az,rfl⟩:=gP h;rw [d8] at I ⊢;exact At.mk (gi ds b (b0.set i xs)) I (by simp only [gi,ag3];exact a1) ⟨rfl,(by rw [show decide (x.op≠18)=false by simpa using az,f6,d9 ba] at aq;exact aq),(b0.set i xs),mV,rfl⟩
   rintro _ _ ⟨rfl,h⟩ I;obtain ⟨a',rfl⟩:=gO h;rw [d8] at I ⊢;rw [show decide (x.op≠18)=true by simpa using a',f5] at aq;rcases Ol p x with ⟨bz,rB,j2⟩|⟨m,rB,j2⟩|⟨rB,j2⟩
   ·rw [rB] at vk
    rw [j2] at aq;have aH:0≤x.n∧x.n<(p.dV.length:Int):=by
     simpa [m6,bz] using i'
    obtain ⟨k,aA⟩:∃ k:Nat,x.n=k:=⟨x.n.toNat,by omega⟩;have jU:=N9 p x k (p.dV.getD x.n.toNat 0) aA Oa;unfold c9 c1 jd k3 bg at jU;refine cB ?_;refine aM.sc C C C C C C Oj jU ?_;refine jH ?_;refine aM.b7 C C C C C C (gY _) I .nil ?_ ?_;rotate_left
    ·rintro _ _ ⟨rfl,h⟩ I
     obtain ⟨az,rfl⟩:=gP h;rw [d8] at I ⊢;rw [f0] at az;refine At.mk (gi ds b (b0.set i xs)) I (by simp only [gi,ag3];exact a1) ⟨rfl,?_,_,mV,rfl⟩;rw [d9 (fun e=>absurd (vj.mp e) sk)] at aq;exact aq
    rintro _ _ ⟨rfl,h⟩ I;obtain ⟨az,rfl⟩:=gO h;rw [d8] at I ⊢;rw [f0] at az;rw [g6 (vj.mpr sk)] at aq;refine gr ?_;exact At.mk (gi ds b (b0.set i xs)) I (by simp only [gi,ag3];exact a1) ⟨Ei,_,mV,rfl,aq⟩
   ·rw [rB] at vk
    rw [j2] at aq;unfold xp at vk;have jU:=N8 m p x;unfold c9 c1 jd k3 bg at jU;refine cB ?_;refine aM.sc C C C C C C Oi jU ?_;refine jH ?_;refine aM.b7 C C C C C C (gY _) I .nil ?_ ?_;rotate_left
    ·rintro _ _ ⟨rfl,h⟩ I
     obtain ⟨az,rfl⟩:=gP h;rw [d8] at I ⊢;rw [f0] at az;refine At.mk (gi ds b (b0.set i xs)) I (by simp only [gi,ag3];exact a1) ⟨rfl,?_,_,mV,rfl⟩;rw [d9 (fun e=>absurd (vj.mp e) sk)] at aq;exact aq
    rintro _ _ ⟨rfl,h⟩ I;obtain ⟨az,rfl⟩:=gO h;rw [d8] at I ⊢;rw [f0] at az;rw [g6 (vj.mpr sk)] at aq;refine gr ?_;exact At.mk (gi ds b (b0.set i xs)) I (by simp only [gi,ag3];exact a1) ⟨Ei,_,mV,rfl,aq⟩
   ·rw [rB] at vk
    rw [j2] at aq;have aq:foldI p false (nP p 12 n size) out=none:=aq;refine cB ?_;refine aa.b7 C C C C C (gY _) I .nil ?_ ?_;rotate_left
    ·rintro _ _ ⟨rfl,h⟩ I
     obtain ⟨az,rfl⟩:=gP h;rw [d8] at I ⊢;exact At.mk (gi ds b (b0.set i xs)) I (by simp only [gi,ag3];exact a1) ⟨rfl,aq,(b0.set i xs),mV,rfl⟩
    rintro _ _ ⟨rfl,h⟩ I;obtain ⟨bz,rfl⟩:=gO h;rw [d8] at I ⊢;exact absurd bz ba
 ·rintro K ⟨b0,eY,rfl,aq⟩ I
  rw [foldI] at aq;refine gr ?_;exact Fin.bt I C aO (aI.all _) ⟨b0,eY,rfl,.inl ⟨rfl,aq⟩⟩
 ·rintro v K ⟨rfl,aq,b0,eY,rfl⟩ I
  exact Fin.fb I aO (aI.all _) ⟨b0,eY,rfl,.inr ⟨rfl,aq⟩⟩
def YA (p:bR) (ds:Nat) (o:ey) (K:a8):Prop:=
 (o = .ret (.cu [])∧∃ b out,out.length=p.nodes.length∧nI p=some out∧K=gi ds b out)∨(o = .panic tQ∧nI p=none∧∃ v R,K=(.own ds,.box 23 [v])::R)
theorem YB (p:bR) (aD:gC p) (ds:Nat) (v0:af) :
  di d0 (.func 221 [] [.br (c1 p) 0,.ptr ds 0]) [] [(.own ds,.box 23 [v0])] (YA p ds):=by
 have an:=bG;have hE:=X5 p aD;have jX:=aD.dV;have hR:=aD.Bs;have n3:=aD.nodes;refine di.fk (first:=[]) (cap:=[.br (c1 p) 0,.ptr ds 0]) ?_;refine bF.bl ai Tryz.func221 C C fun s I=>?_
 have On:=N3 p aD;unfold c9 at *;unfold c1 bg at *;have cc:nI p=nI p:=rfl
 conv at cc=>rhs;unfold nI
 refine kB ?_;refine aa.b7 C C C C C hE I .nil ?_ ?_;rotate_left
 ·rintro _ _ ⟨rfl,h⟩ I
  obtain ⟨az,rfl⟩:=gP h;rw [d8] at I ⊢;exact Fin.fb I aO (aI.all _) (.inr ⟨rfl,by rw [cc,az];rfl,_,_,rfl⟩)
 rintro _ _ ⟨rfl,h⟩ I;obtain ⟨cj,rfl⟩:=gO h;rw [d8] at I ⊢;rw [cj,f5] at cc;have l':=Hp cj;have YC:(fD 0 p.cm).length<bB:=by have h:(fD 0 p.cm).length≤40:=l'.bn;omega
 have On:=On YC;refine hx ?_;by_cases g1:p.dV.length≤8;rotate_left
 ·refine aa.da 14 C cP ?_
  refine eg ?_;refine aa.b7 C C C C C (gY _) I .nil ?_ ?_;rotate_left
  ·rintro _ _ ⟨rfl,h⟩ I
   obtain ⟨az,rfl⟩:=gP h;rw [d8] at I ⊢;exact Fin.fb I aO (aI.all _) (.inr ⟨rfl,(by rw [cc];simp [ra,g1]),_,_,rfl⟩)
  rintro _ _ ⟨rfl,h⟩ I;obtain ⟨U,rfl⟩:=gO h;rw [d8] at I ⊢;exact absurd U ba
 refine aa.dy 14 C cP ?_;refine ep ?_;by_cases g2:p.methods.length≤16;rotate_left
 ·refine aa.da 20 C cP ?_
  refine eg ?_;refine aa.b7 C C C C C (gY _) I .nil ?_ ?_;rotate_left
  ·rintro _ _ ⟨rfl,h⟩ I
   obtain ⟨az,rfl⟩:=gP h;rw [d8] at I ⊢;exact Fin.fb I aO (aI.all _) (.inr ⟨rfl,(by rw [cc];simp [ra,g2]),_,_,rfl⟩)
  rintro _ _ ⟨rfl,h⟩ I;obtain ⟨U,rfl⟩:=gO h;rw [d8] at I ⊢;exact absurd U ba
 refine aa.dy 20 C cP ?_;refine ep ?_;by_cases g3:p.nodes.length≥1;rotate_left
 ·refine aa.da 26 C cP ?_
  refine eg ?_;refine aa.b7 C C C C C (gY _) I .nil ?_ ?_;rotate_left
  ·rintro _ _ ⟨rfl,h⟩ I
   obtain ⟨az,rfl⟩:=gP h;rw [d8] at I ⊢;exact Fin.fb I aO (aI.all _) (.inr ⟨rfl,(by rw [cc];simp [ra,show ¬ 1≤p.nodes.length by omega]),_,_,rfl⟩)
  rintro _ _ ⟨rfl,h⟩ I;obtain ⟨U,rfl⟩:=gO h;rw [d8] at I ⊢;exact absurd U ba
 refine aa.dy 26 C cP ?_;refine ep ?_;refine aa.b7 C C C C C (gY _) I .nil ?_ ?_;rotate_left
 ·rintro _ _ ⟨rfl,h⟩ I
  obtain ⟨az,rfl⟩:=gP h;rw [d8] at I ⊢;exact Fin.fb I aO (aI.all _) (.inr ⟨rfl,(by rw [cc];simp at az;simp [ra,show ¬ p.nodes.length≤120 by omega]),_,_,rfl⟩)
 rintro _ _ ⟨rfl,h⟩ I;obtain ⟨g4,rfl⟩:=gO h;rw [d8] at I ⊢;have g4:p.nodes.length≤120:=by simp at g4;omega
 have YD:ra p=p.dV.all (fun n=>decide (n≥1)&&decide (n≤3)):=by
  unfold ra;rw [g7 g1,g7 g2,g7 g3,g7 g4];rfl
 rw [YD] at cc;refine bD ?_;refine ae.b9 [0,1,34,35] C I (σ:=Nat) (fun j=>[(36,.int .i64 (j:Int))]) (fun _=>[(.own ds,.box 23 [v0])]) (fun j=>j≤p.dV.length∧p.dV.all (fun n=>decide (n≥1)&&decide (n≤3))=(p.dV.drop j).all (fun n=>decide (n≥1)&&decide (n≤3))) (fun j=>p.dV.length-j) 0 ⟨g8 _,rfl⟩ (cz C) a1 ?_;rintro j ⟨aH,aq⟩ I
 try simp only at aH aq I ⊢
 refine b8 ?_;refine ae.cond C (fun aw=>?_) (fun aY=>?_)
 ·have aw:j<p.dV.length:=by simpa using aw
  obtain ⟨x,ab,bP⟩:=b5 (f:=bb) aw;rw [drop_cons ab,ak'] at aq;unfold bb at bP;refine dL ?_;by_cases g5:x≥1;rotate_left
  ·refine aa.da 42 C (H1 g5) ?_
   refine eg ?_;refine aa.b7 C C C C C (gY _) I .nil ?_ ?_;rotate_left
   ·rintro _ _ ⟨rfl,h⟩ I
    obtain ⟨az,rfl⟩:=gP h;rw [d8] at I ⊢;exact Fin.fb I aO (aI.all _) (.inr ⟨rfl,(by rw [cc,aq,H1 g5];rfl),_,_,rfl⟩)
   rintro _ _ ⟨rfl,h⟩ I;obtain ⟨bz,rfl⟩:=gO h;rw [d8] at I ⊢;exact absurd bz ba
  refine aa.dy 42 C (g7 g5) ?_;rw [g7 g5,f5] at aq;refine ep ?_;refine aa.b7 C C C C C (gY _) I .nil ?_ ?_;rotate_left
  ·rintro _ _ ⟨rfl,h⟩ I
   obtain ⟨az,rfl⟩:=gP h;rw [d8] at I ⊢;exact Fin.fb I aO (aI.all _) (.inr ⟨rfl,(by rw [cc,aq,show decide (x≤3)=false from az];rfl),_,_,rfl⟩)
  rintro _ _ ⟨rfl,h⟩ I;obtain ⟨bz,rfl⟩:=gO h;rw [d8] at I ⊢;rw [show decide (x≤3)=true from bz,f5] at aq;refine gf ?_;exact bp.mk (j+1) I ⟨aw,aq⟩ ck a1 (by show p.dV.length-(j+1)<p.dV.length-j;omega)
 have aY:j=p.dV.length:=by simp at aY;omega
 subst aY;rw [eG (g9 _),ap3] at aq;have tS:=aq;rw [aq,g6 C] at cc;have YE:=Yu (-1) p.nodes.length g3 ag;have hlen:((p.nodes.map jd).length:Int)=(p.nodes.length:Int):=by rw [f0]
 refine bD ?_;refine aa.b7 C C C C (by rw [f0];rfl) YE I .nil ?_ (fun _ _ ⟨_,h,_⟩ _=>by cases h);rintro _ _ ⟨b,⟨⟩,rfl⟩ I;rw [ad',d8] at I ⊢;refine Gz I ?_;intro I;refine ae.b9 [0,1,4,5,57,58] C I (σ:=Nat×List Int) (fun q=>[(59,.int .i64 (q.1:Int))]) (fun q=>gi ds b q.2) (fun q=>q.1≤p.methods.length∧q.2.length=p.nodes.length∧nH p p.methods (ab' p.nodes.length (-1))=nH p (p.methods.drop q.1) q.2) (fun q=>p.methods.length-q.1) (0,ab' p.nodes.length (-1)) ⟨g8 _,ag1,rfl⟩ (cz C) (by simp only [gi,ag1];exact a1) ?_;rintro ⟨j,out⟩ ⟨aH,gz,aq⟩ I
 try simp only at aH gz aq I ⊢
 refine b8 ?_;refine ae.cond C (fun aw=>?_) (fun aY=>?_)
 ·have aw:j<p.methods.length:=by simpa using aw
  obtain ⟨m,ab,bP⟩:=b5 (f:=nF) aw;have gm:=d6 ab;rw [drop_cons ab,nH] at aq;have b':=aD.facts m gm;have BG:=VW (bT p) l' m.fact ag;have dz:=X8 (bT p) m.fact.size m.fact (g9 _) ag;rw [ao.cp] at BG dz;unfold ao.cells at BG dz;unfold nF pa at bP;refine dY ?_;by_cases na:m.kind≥1;rotate_left
  ·refine aa.da 66 C (H1 na) ?_
   refine eg ?_;refine aa.b7 C C C C C (gY _) I .nil ?_ ?_;rotate_left
   ·rintro _ _ ⟨rfl,h⟩ I
    obtain ⟨az,rfl⟩:=gP h;rw [d8] at I ⊢;exact Fin.fb I aO (aI.all _) (.inr ⟨rfl,(by rw [cc,aq];simp [tE,na]),_,_,rfl⟩)
   rintro _ _ ⟨rfl,h⟩ I;obtain ⟨U,rfl⟩:=gO h;rw [d8] at I ⊢;exact absurd U ba
  refine aa.dy 66 C (g7 na) ?_;refine ep ?_;by_cases hA:m.kind≤4;rotate_left
  ·refine aa.da 71 C (H1 hA) ?_
   refine eg ?_;refine aa.b7 C C C C C (gY _) I .nil ?_ ?_;rotate_left
   ·rintro _ _ ⟨rfl,h⟩ I
    obtain ⟨az,rfl⟩:=gP h;rw [d8] at I ⊢;exact Fin.fb I aO (aI.all _) (.inr ⟨rfl,(by rw [cc,aq];simp [tE,hA]),_,_,rfl⟩)
   rintro _ _ ⟨rfl,h⟩ I;obtain ⟨U,rfl⟩:=gO h;rw [d8] at I ⊢;exact absurd U ba
  refine aa.dy 71 C (g7 hA) ?_;refine ep ?_;by_cases wY:m.gen≥0;rotate_left
  ·refine aa.da 76 C (H1 wY) ?_
   refine eg ?_;refine aa.b7 C C C C C (gY _) I .nil ?_ ?_;rotate_left
   ·rintro _ _ ⟨rfl,h⟩ I
    obtain ⟨az,rfl⟩:=gP h;rw [d8] at I ⊢;exact Fin.fb I aO (aI.all _) (.inr ⟨rfl,(by rw [cc,aq];simp [tE,wY]),_,_,rfl⟩)
   rintro _ _ ⟨rfl,h⟩ I;obtain ⟨U,rfl⟩:=gO h;rw [d8] at I ⊢;exact absurd U ba
  refine aa.dy 76 C (g7 wY) ?_;obtain ⟨g,av⟩:∃ g:Nat,m.gen=g:=⟨m.gen.toNat,by omega⟩;have YF:tE p m=(decide (g<p.dV.length)&&(h' (bT p) m.fact&&decide (lB m.fact≤p.dV.getD g 0))):=by
   unfold tE;rw [g7 na,g7 hA,g7 wY,av,i9];simp
  rw [YF,av,i9] at aq;rw [av];refine ep ?_;refine aa.b7 C C C C C (gY _) I .nil ?_ ?_;rotate_left
  ·rintro _ _ ⟨rfl,h⟩ I
   obtain ⟨az,rfl⟩:=gP h;rw [d8] at I ⊢;exact Fin.fb I aO (aI.all _) (.inr ⟨rfl,(by rw [cc,aq,show decide (g<p.dV.length)=false by simpa using az];rfl),_,_,rfl⟩)
  rintro _ _ ⟨rfl,h⟩ I;obtain ⟨wZ,rfl⟩:=gO h;rw [d8] at I ⊢;have wZ:g<p.dV.length:=by simpa using wZ
  rw [g7 wZ,f5] at aq;obtain ⟨x,BH,YG⟩:=b5 (f:=bb) wZ;have kY:p.dV.getD g 0=x:=by rw [d5,BH];rfl
  have adv:1≤x∧x≤3:=by
   have:=ag6.1 tS x (d6 BH);simpa using this
  rw [kY] at aq;unfold bb at YG;cases a7:h' (bT p) m.fact with
  | false=>
   rw [a7] at BG;simp only [af6,ah9] at BG;refine qZ ?_;refine aM.b7 C C C C C C (gY _) I .nil ?_ ?_;rotate_left
   ·rintro _ _ ⟨rfl,h⟩ I
    obtain ⟨az,rfl⟩:=gP h;rw [d8] at I ⊢;exact Fin.fb I aO (aI.all _) (.inr ⟨rfl,(by rw [cc,aq,a7];rfl),_,_,rfl⟩)
   rintro _ _ ⟨rfl,h⟩ I;obtain ⟨U,rfl⟩:=gO h;rw [d8] at I ⊢;exact absurd U ba
  | true=>
  rw [a7,g6 C] at BG;rw [a7,f5] at aq;have dz:=dz (uX m.fact (bT p) 12 24 a7);refine qZ ?_;refine aM.b7 C C C C C C (gY _) I .nil ?_ ?_;rotate_left
  ·rintro _ _ ⟨rfl,h⟩ I
   obtain ⟨az,rfl⟩:=gP h;rw [d8] at I ⊢;exact Fin.fb I aO (aI.all _) (.inr ⟨rfl,(by rw [cc,aq,az];rfl),_,_,rfl⟩)
  rintro _ _ ⟨rfl,h⟩ I;obtain ⟨YH,rfl⟩:=gO h;rw [d8] at I ⊢;rw [YH,g6 C] at aq;have vl:=Om p aD tS ds b out gz g4 m.node x (tF m.kind) ag;unfold c1 at vl;by_cases aA:m.kind=1
  ·rw [aA] at vl aq ⊢
   refine qZ ?_;refine aM.gJ C C C C C C C vl I (aI.all _) ?_ ?_;rotate_left
   ·rintro _ _ ⟨b0,eY,rfl,(⟨h,_⟩|⟨⟨⟩,au⟩)⟩ I
    ·cases h
    rw [au] at aq;exact Fin.fb I aO (aI.all _) (.inr ⟨rfl,by rw [cc,aq];rfl,_,_,rfl⟩)
   rintro _ _ ⟨b0,eY,rfl,(⟨⟨⟩,au⟩|⟨h,_⟩)⟩ I;rotate_left
   ·cases h
   rw [au] at aq;rw [d7] at I ⊢;refine gr ?_;exact bp.mk (j+1,b0) I ⟨aw,eY,aq⟩ ck (aI.all _) tR
  ·have kD:tF m.kind=decide (m.kind=4):=by unfold tF;rw [H1 aA];rfl
   rw [kD] at vl aq;refine qZ ?_;refine aM.split 115 C (fun h=>absurd (ai9 h) aA) (fun _=>?_);refine jH ?_;refine aM.gJ C C C C C C C vl I (aI.all _) ?_ ?_;rotate_left
   ·rintro _ _ ⟨b0,eY,rfl,(⟨h,_⟩|⟨⟨⟩,au⟩)⟩ I
    ·cases h
    rw [au] at aq;exact Fin.fb I aO (aI.all _) (.inr ⟨rfl,by rw [cc,aq];rfl,_,_,rfl⟩)
   rintro _ _ ⟨b0,eY,rfl,(⟨⟨⟩,au⟩|⟨h,_⟩)⟩ I;rotate_left
   ·cases h
   rw [au] at aq;rw [d7] at I ⊢;refine gr ?_;exact bp.mk (j+1,b0) I ⟨aw,eY,aq⟩ ck (aI.all _) tR
 have aY:j=p.methods.length:=by simp at aY;omega
 subst aY;rw [eG (g9 _),nH] at aq;rw [aq] at cc;have vl:=Om p aD tS ds b out gz g4 p.main 0 false ag;unfold c1 at vl;refine bD ?_;refine aa.gJ C C C C C C vl I (aI.all _) ?_ ?_;rotate_left
 ·rintro _ _ ⟨b0,eY,rfl,(⟨h,_⟩|⟨⟨⟩,au⟩)⟩ I
  ·cases h
  exact Fin.fb I aO (aI.all _) (.inr ⟨rfl,by rw [cc];show (visitM p false 12 p.main 0 out).bind _=none;rw [au];rfl,_,_,rfl⟩)
 rintro _ _ ⟨b0,eY,rfl,(⟨⟨⟩,au⟩|⟨h,_⟩)⟩ I;rotate_left
 ·cases h
 have cc:nI p=if b0.contains (-1) then none else some b0:=by
  rw [cc];show (visitM p false 12 p.main 0 out).bind _=_;rw [au];rfl
 rw [d7] at I ⊢;have Ej:=Nl b b0.length b0 [] (-1) ag;unfold u7 at Ej;rw [d7] at Ej;unfold gi at I;refine cv I ?_;intro I;refine aa.b7 rfl rfl rfl rfl rfl Ej I a1 ?_ (fun _ _ ⟨h,_⟩ _=>by cases h);rintro _ _ ⟨⟨⟩,rfl⟩ I;simp only [ad',d8] at I ⊢;refine ep ?_;refine aa.b7 C C C C C (gY _) I .nil ?_ ?_;rotate_left
 ·rintro _ _ ⟨rfl,h⟩ I
  obtain ⟨az,rfl⟩:=gP h;rw [d8] at I ⊢;exact Fin.fb I aO (.cons (.there .here) (.cons .here .nil)) (.inr ⟨rfl,by rw [cc,show b0.contains (-1)=true by simpa using az];rfl,_,_,rfl⟩)
 rintro _ _ ⟨rfl,h⟩ I;obtain ⟨U,rfl⟩:=gO h;rw [d8] at I ⊢;rw [show b0.contains (-1)=false by simpa using U,d9 ba] at cc;refine fK ?_;exact Fin.bt I C aO (.cons (.there .here) (.cons .here .nil)) (.inl ⟨rfl,b,b0,eY,cc,rfl⟩);done
def YI (p:bR) (o:ey) (K:a8):Prop:=
 (∃ b out,out.length=p.nodes.length∧nI p=some out∧o = .ret (.cu [eh b out.length out.length,.bool true])∧K=[(.own b,.box 3 (out.map bb))])∨(nI p=none∧(∃ v,o = .ret (.cu [v,.bool false]))∧K=[])
theorem YJ (p:bR) (aD:gC p):bF d0 187 [c9 p] ([]) (YI p):=by
 have an:=bG;refine bF.bl ai Tryz.func187 C C fun s I=>?_
 unfold c9 c1
 repeat (first|(refine Dm ?_)|refine aa.dK ai I C C C C C C C (fun cA I=>?_))
 have a7:=Yn 221 [] [.br (c1 p) 0,.ptr cA 0] [(.own cA,.box 23 [.aB 0 [] .nil])] (fun K=>∃ b out,out.length=p.nodes.length∧nI p=some out∧K=gi cA b out) (fun K=>nI p=none∧∃ v R,K=(.own cA,.box 23 [v])::R) (di.mono (YB p aD cA (.aB 0 [] .nil)) (fun o K h=>by
  rcases h with ⟨U,b,out,ad,aj,a'⟩|⟨U,ad,aj⟩
  ·exact .inl ⟨U,b,out,ad,aj,a'⟩
  ·exact .inr ⟨U,ad,aj⟩))
 unfold c1 at a7;refine aa.b7 C C C C C a7 I a1 ?_ ?_;rotate_left
 ·rintro x aP (⟨h,_⟩|⟨h,_⟩) I
  ·cases h
  ·cases h
 rintro x aP (⟨⟨⟩,b,out,aE,eJ,rfl⟩|⟨⟨⟩,eJ,v,R,rfl⟩) I
 ·unfold gi at I ⊢
  simp only [ad',d8,d7] at I ⊢;refine cv I ?_;intro I;exact Fin.bt I C aO (.cons (.there .here) .nil) (.inl ⟨b,out,aE,eJ,rfl,rfl⟩)
 ·simp only [ad',d8,d7] at I ⊢
  refine cv I ?_;intro I;exact Fin.bt I C aO .nil (.inr ⟨eJ,⟨v,rfl⟩,rfl⟩)
theorem YK (p:bR) (aD:gC p):aV d0 146 [c9 p] (.int .i64 (if gu p then 0 else 2)):=by
 have an:=bG;refine aV.bl ai Tryz.func146 C C fun s I=>?_
 have bE:=YJ p aD;unfold c9 c1 at *;unfold gu;refine dF ?_;refine aa.b7 C C C C C bE I .nil ?_ ?_;rotate_left
 ·rintro x aP (⟨b,out,_,_,h,_⟩|⟨_,⟨v,h⟩,_⟩) I
  ·cases h
  ·cases h
 rintro x aP (⟨b,out,_,eJ,⟨⟩,rfl⟩|⟨eJ,⟨v,⟨⟩⟩,rfl⟩) I
 ·rw [eJ]
  refine bD ?_;exact bA I
 ·rw [eJ]
  refine eg ?_;exact bA I
def Oo:af := .agg [.aB 0 [] .nil,.aB 0 [] .nil]
theorem YL {p:bR} (h:gu p=true):pf p=true:=by
 unfold gu nI at h;cases aF:pf p with
 | true=>rfl
 | false=>rw [aF,f6] at h;cases h
theorem xy {p:bR} (h:gu p=true):gg (bT p):=Hp (YL h)
theorem Iw (p:bR) (aD:gC p):aV d0 100 [c9 p] (.cu [if gu p then fh (bT p) else Oo,.int .i64 (if gu p then 0 else 2)]):=by
 have an:=bG;refine aV.bl ai Tryz.func100 C C fun s I=>?_
 have aF:=YK p aD;have hw:=N3 p aD;unfold c9 c1 at *;cases eD:gu p with
 | false=>
  rw [eD] at aF;unfold Oo
  repeat (first|(refine T9 I ?_;clear I;intro I)|refine aa.dK ai I rfl rfl rfl rfl rfl rfl rfl (fun cA I=>?_)|(refine o4 ?_))
  exact Fin.cG I (wK C C (bo.get aZ I) C C) aO
 | true=>
  rw [eD] at aF;have adw:(fD 0 p.cm).length≤40:=(xy eD).bn;have hw:=hw ag;unfold fh fl at *
  repeat (first|(refine T' I ?_;clear I;intro I)|refine aa.dK ai I rfl rfl rfl rfl rfl rfl rfl (fun cA I=>?_)|(refine o4 ?_))
  exact Fin.cG I (wK C C (bo.get aZ I) C C) aO
mutual
theorem Oq:∀ (f:ao) (w:bx) (d:Nat) (k:Int),(e1 w d k f).1=true→0≤(e1 w d k f).2∧((mJ f).length:Int)+(e1 w d k f).2≤k
  | .mk o a p c n ks,w,d,k,h=>by
    rw [e1] at h ⊢;split at h
    · cases h
    · rename_i aA
      rw [d9 aA];split at h
      · rename_i az
        rw [g6 az];have lO:0≤k-1:=by
          simp only [aj0,i7,not_or] at aA;omega
        obtain ⟨U,ad⟩:=Ot ks w (d-1) (k-1) lO h;refine ⟨U,?_⟩;rw [mJ];split
        · simp only [i0,af7];omega
        · omega
      · cases h
theorem Ot:∀ (l:List ao) (w:bx) (d:Nat) (k:Int),0≤k→(gV w d k l).1=true→0≤(gV w d k l).2∧((pw l).length:Int)+(gV w d k l).2≤k
  | [],_,_,_,aA,_=>by rw [gV,pw];exact ⟨aA,by simp⟩
  | x::r,w,d,k,aA,h=>by
    rw [gV] at h ⊢;split at h
    · rename_i ab
      rw [g6 ab,pw,f8];obtain ⟨U,ad⟩:=Oq x w d k ab;obtain ⟨aj,a'⟩:=Ot r w d _ U h;exact ⟨aj,by push_cast;omega⟩
    · cases h
end
theorem Ou {w:bx} {f:ao} (h:h' w f=true):(mJ f).length≤24:=by
 have:=Oq f w 12 24 h;omega
mutual
theorem Ix:∀ (f:ao) (w:bx),gM w f=true→∀ x∈mJ f,gM w x=true∧x.c0=true
  | .mk o a p c n ks,w,h,x,ab=>by
    rw [mJ] at ab;split at ab
    · rename_i aE
      rw [t6] at ab;subst ab;exact ⟨h,aE⟩
    · rw [gM,f9] at h
      exact Ov ks w h.2 x ab
theorem Ov:∀ (l:List ao) (w:bx),jJ w l=true→∀ x∈pw l,gM w x=true∧x.c0=true
  | [],_,_,x,ab=>by cases ab
  | y::r,w,h,x,ab=>by
    rw [jJ,f9] at h;rw [pw] at ab;rcases ae4.1 ab with ab|ab
    · exact Ix y w h.1 x ab
    · exact Ov r w h.2 x ab
end
theorem xz {w:bx} {f:ao} (h:gM w f=true) (aE:f.c0=true):f.path.length≤2:=by
 rw [p4,f9] at h;have h:=h.1;unfold h9 at h;rw [aE] at h;simp only [f9,ag7,i7] at h;exact h.2.2.2.2.2.1
theorem YM (l:List ao) (f:ao):(kn l f).length≤l.length+1:=by
 unfold kn;split
 ·omega
 ·simp
theorem YN {l:List ao} {f x:ao} (h:x∈kn l f):x∈l∨x=f:=by
 unfold kn at h;split at h
 ·exact .inl h
 ·rcases ae4.1 h with h|h
  ·exact .inl h
  ·exact .inr (t6.1 h)
theorem Ow {p:bR}:∀ {l:List hS} {out o:List Int},nH p l out=some o→∀ m∈l,tE p m=true
  | x::r,out,o,h,m,hm=>by
    rw [nH] at h;split at h
    · rename_i ab
      cases au:visitM p (tF x.kind) 12 x.node (p.dV.getD x.gen.toNat 0) out with
      | none=>rw [au] at h;cases h
      | some b0=>
        rw [au] at h;rcases af1.1 hm with rfl|hm
        · exact ab
        · exact Ow (l:=r) h m hm
    · cases h
theorem Ox {p:bR} (h:gu p=true):pf p=true∧ra p=true∧∃ o,nH p p.methods (ab' p.nodes.length (-1))=some o:=by
 unfold gu nI at h;split at h
 ·rename_i aF
  rw [f9] at aF;refine ⟨aF.1,aF.2,?_⟩;cases hm:nH p p.methods (ab' p.nodes.length (-1)) with
  | none=>rw [hm] at h;cases h
  | some o=>exact ⟨o,rfl⟩
 ·cases h
theorem Iy {p:bR} (h:gu p=true) {m:hS} (hm:m∈p.methods):h' (bT p) m.fact=true:=by
 obtain ⟨-,-,o,ah⟩:=Ox h;have:=Ow ah m hm;unfold tE at this;simp only [f9] at this;exact this.2.2.2.2.1
theorem xA {p:bR} (h:gu p=true):p.methods.length≤16∧p.dV.length≤8:=by
 obtain ⟨-,aE,-⟩:=Ox h;unfold ra at aE;simp only [f9,i7] at aE;exact ⟨aE.2.1,aE.1⟩
def jA (w:bx) (l:List ao):Prop:=∀ x∈l,gM w x=true∧x.c0=true
theorem Oy {w:bx} (gen:Int):∀ (c3 l:List ao),jA w l→jA w c3→jA w (c3.foldl kn l)∧(c3.foldl kn l).length≤l.length+c3.length
  | [],l,h,_=>⟨h,g9 _⟩
  | x::r,l,h,aR=>by
    have U:jA w (kn l x):=fun y ax=>by
      rcases YN ax with ax|rfl
      · exact h y ax
      · exact aR _ i8
    obtain ⟨ad,aj⟩:=Oy (w:=w) gen r (kn l x) U (fun y ax=>aR y (i6 _ ax));have:=YM l x;exact ⟨ad,by rw [ah4,i0];omega⟩
theorem Oz {p:bR} (aD:gu p=true) (gen:Int):∀ (ms:List hS) (l:List ao),(∀ m∈ms,m∈p.methods)→jA (bT p) l→jA (bT p) (ms.foldl (l8 gen) l)∧(ms.foldl (l8 gen) l).length≤l.length+24*ms.length
  | [],l,_,h=>⟨h,g9 _⟩
  | m::r,l,hm,h=>by
    have a7:=Iy aD (hm m i8);have U:jA (bT p) (l8 gen l m)∧(l8 gen l m).length≤l.length+24:=by
      unfold l8;split
      · obtain ⟨ad,aj⟩:=Oy (w:=bT p) gen (mJ m.fact) l h (Ix m.fact _ (uX _ _ _ _ a7))
        have:=Ou a7;exact ⟨ad,by omega⟩
      · exact ⟨h,by omega⟩
    obtain ⟨a',bz⟩:=Oz aD gen r (l8 gen l m) (fun x ab=>hm x (i6 _ ab)) U.1;exact ⟨a',by rw [ah4,i0];omega⟩
theorem YO {p:bR} (aD:gu p=true) (gen:Int):jA (bT p) (ca p gen)∧(ca p gen).length≤384:=by
 obtain ⟨U,ad⟩:=Oz aD gen p.methods [] (fun _ h=>h) (fun _ h=>by cases h);have:=(xA aD).1;exact ⟨U,by unfold ca;simp only [af7] at ad;omega⟩
def eu (p:bR) (n:Int) (c3 vs:af) (an cH:Nat):List af:=[.aB 3 (p.cm.map jc) .bc,.int .i64 p.bn,bg p.dV,.aB 9 (p.methods.map nF) .bc,.aB 3 (p.nodes.map jd) .bc,.int .i64 p.main,.int .i64 n,cZ (bT p).ps,bg (bT p).owner,c3,vs,.map an,.map cH]
def nQ (p:bR) (n:Int) (ct an cH:Nat) (bC:yZ) (l:List ao):a8:=(.own ct,.box 110 (eu p n (rr bC l) (.aB 0 [] .nil) an cH))::(.own an,.map [])::(.own cH,.map [])::qe bC
def d' (l:List ao):af := .aB 6 (l.map ao.bW) .bc
def YP (p:bR) (n:Int) (o:ey) (K:a8):Prop:=
 (hc p n=0∧∃ ct an cH,o = .ret (.cu [.ptr ct 0,.int .i64 0])∧K=[(.own ct,.box 110 (eu p n (d' (ca p n)) (.aB 0 [] .nil) an cH)),(.own an,.map []),(.own cH,.map [])]) ∨
 (hc p n≠0∧(∃ v,o = .ret (.cu [v,.int .i64 (hc p n)]))∧K=[])
theorem OA {cs:List af} {l:List ao} {x:ao} {zc:List af} (bE:zc.length=6) (h:cs.take ((l.length+1)*6)=(l.map ao.cells).flatten++zc) :
  (eS (l.length*6) x.cells cs).length=cs.length∧(eS (l.length*6) x.cells cs).take ((l.length+1)*6)=(l.map ao.cells).flatten++x.cells:=by
 have U:=NP (sz:=6) (cs:=cs) (xss:=l.map ao.cells++[zc]) (n:=l.length+1) (j:=l.length) (ys:=zc) (ys':=x.cells) (fun c aF=>by
  rcases ae4.1 aF with aF|aF
  ·exact H7 l c aF
  ·rw [t6.1 aF];exact bE) (by rw [h];simp) (by rw [af0 ba];simp) C
 refine ⟨U.1,U.2.trans ?_⟩;rw [al4 _ _ ba];simp
theorem BI (p:bR) (aD:gC p) (n:Int):bF d0 58 [c9 p,.int .i64 n] [] (YP p n):=by
 have an:=bG;have hw:=Iw p aD;have jX:=aD.dV;have hR:=aD.Bs;have eB:hc p n=hc p n:=rfl
 conv at eB=>rhs;unfold hc
 refine bF.bl ai Tryz.func58 C C fun s I=>?_
 unfold c9 c1 at *;cases eD:gu p with
 | false=>
  rw [eD] at hw;simp only [af6,ah9] at hw;rw [eD,f6,d9 ba] at eB;refine dY ?_;exact Fin.bt I C aO .nil (.inr ⟨by omega,⟨_,by rw [eB]⟩,rfl⟩)
 | true=>
 rw [eD,g6 C,g6 C] at hw;rw [eD,f5] at eB;have Iz:px p n=(decide (n≥0)&&decide (n<(p.dV.length:Int))):=rfl;obtain ⟨xB,YQ⟩:=xA eD;refine dY ?_;by_cases CB:n<0
 ·refine aa.dy 23 C (g7 CB) ?_
  rw [Iz,show decide (n≥0)=false by simp;omega,f6,d9 ba] at eB;refine eg ?_;exact Fin.bt I C aO .nil (.inr ⟨by omega,⟨_,by rw [eB]⟩,rfl⟩)
 refine aa.da 23 C (H1 CB) ?_;refine fK ?_;refine ae.cond C (fun zN=>?_) (fun zN=>?_)
 ·rw [Iz,show decide (n<(p.dV.length:Int))=false by simp [bg] at zN ⊢;omega,ak9,d9 ba] at eB
  refine gT ?_;exact Fin.bt I C aO .nil (.inr ⟨by omega,⟨_,by rw [eB]⟩,rfl⟩)
 rw [Iz,show decide (n<(p.dV.length:Int))=true by simp [bg] at zN ⊢;omega,show decide (n≥0)=true by simp;omega,g6 (by rfl)] at eB;refine dL ?_;refine aa.rZ I C C C C (fun dR I=>?_);refine aa.rZ I C C C C (fun cH I=>?_);refine cD C ?_;refine aa.jV I C C C C C C (fun ct I=>?_);refine dY ?_;refine ae.b9 [1,8,38,39] C I (σ:=Nat×yZ×List ao) (fun q=>[(40,.int .i64 (q.1:Int))]) (fun q=>nQ p n ct dR cH q.2.1 q.2.2)
  (fun q=>q.1≤p.methods.length∧H6 q.2.1 q.2.2∧jA (bT p) q.2.2∧q.2.2.length≤24*q.1∧ca p n=(p.methods.drop q.1).foldl (l8 n) q.2.2) (fun q=>p.methods.length-q.1) (0,none,[])
  ⟨g8 _,rfl,(fun x h=>absurd h List.not_mem_nil:jA (bT p) []),g8 _,rfl⟩ (cz C) (by simp only [nQ,qe,eu,rr];exact a1) ?_
 rintro ⟨j,bC,l⟩ ⟨aH,df,de,mB,aq⟩ I
 try simp only at aH df de mB aq I ⊢
 refine b8 ?_;refine ae.cond C (fun aw=>?_) (fun aY=>?_);rotate_left
 ·have aY:j=p.methods.length:=by simp at aY;omega
  rw [eG ag,av8] at aq;subst aq;unfold nQ at I ⊢;rcases bC with _|⟨g,cap,cs⟩
  ·have bu:ca p n=[]:=df
   have jD:d' (ca p n) = .aB 6 [] .bc:=by rw [bu];rfl
   refine ae.ru I (eu p n (d' (ca p n)) (.aB 0 [] .nil) dR cH) .here (by
    rw [jD];unfold eu
    repeat (first|exact cR.nil|refine cR.cons (by first|exact aO|exact aU.empty) ?_)) (fun I=>?_)
   unfold d' at I ⊢;refine cv I ?_;intro I;refine ae.cond C (fun hs=>?_) (fun hs=>?_)
   ·have hs:¬ (ca p n).length≤7:=by simp [bu] at hs ⊢ <;> omega
    rw [d9 hs] at eB;refine gT ?_;exact Fin.bt I C aO .nil (.inr ⟨by omega,⟨_,by rw [eB]⟩,rfl⟩)
   ·have hs:(ca p n).length≤7:=by simp [bu] at hs ⊢ <;> omega
    rw [g6 hs] at eB;refine bD ?_;exact Fin.bt I C aO (by simp only [eu];exact a1) (.inl ⟨eB,ct,dR,cH,rfl,rfl⟩)
  ·obtain ⟨k0,kV,BJ⟩:=df
   unfold qe eu rr at I ⊢;refine ae.Bm I 9 .here (.there (.there .here)) C BJ (f0 _) (H7 _) kV ag (fun I=>?_);have jD:((ca p n).map ao.cells).map af.agg=(ca p n).map ao.bW:=by
    rw [at1];exact List.map_congr_left (fun x _=>(ao.cp x).symm)
   rw [jD] at I ⊢
   try unfold d' at I
   refine cv I ?_;intro I;refine ae.cond C (fun hs=>?_) (fun hs=>?_)
   ·have hs:¬ (ca p n).length≤7:=by simp [Nat.not_le] at hs ⊢ <;> omega
    rw [d9 hs] at eB;refine gT ?_;exact Fin.bt I C aO .nil (.inr ⟨by omega,⟨_,by rw [eB]⟩,rfl⟩)
   ·have hs:(ca p n).length≤7:=by simp [Nat.not_le] at hs ⊢ <;> omega
    rw [g6 hs] at eB;refine bD ?_;exact Fin.bt I C aO (by simp only [eu];exact a1) (.inl ⟨eB,ct,dR,cH,rfl,rfl⟩)
 have aw:j<p.methods.length:=by simpa using aw
 obtain ⟨m,ab,bP⟩:=b5 (f:=nF) aw;have gm:=d6 ab;have b':=aD.facts m gm;have vm:=Iy eD gm;have kY:=uX _ _ _ _ vm;have m3:=Ou vm;have IA:=Ix m.fact _ kY;have zb:=Xh m.fact;have ob:=Xg m.fact ag;rw [ao.cp] at zb;unfold ao.cells at zb ob;rw [drop_cons ab,ah4] at aq;unfold nF pa at bP;refine dY ?_;refine ae.cond C (fun av=>?_) (fun av=>?_)
 ·have av:m.gen≠n:=by simpa using av
  rw [show l8 n l m=l by unfold l8;rw [d9 av]] at aq;refine ef ?_;exact bp.mk (j+1,bC,l) I ⟨aw,df,de,by show l.length≤24*(j+1);omega,aq⟩ ck (aI.all _) tR
 have av:m.gen=n:=by simpa using av
 rw [show l8 n l m=(mJ m.fact).foldl kn l by unfold l8;rw [g6 av]] at aq;refine db ?_;refine ae.GL I C ec ob .nil (fun rem K=>∃ rv fE,H6 rv fE∧jA (bT p) fE∧fE.length+rem.length≤24*(j+1)∧(∀ x∈rem,gM (bT p) x=true∧x.c0=true)∧(mJ m.fact).foldl kn l=rem.foldl kn fE∧K=nQ p n ct dR cH rv fE) (fun _ _=>False) (fun _ _=>False) ⟨bC,l,df,de,by omega,IA,rfl,rfl⟩ ?_ ?_ (fun _ _ h=>h.elim) (fun _ _ h=>h.elim);rotate_left
 ·rintro K ⟨rv,fE,xn,IA,eY,-,kJ,rfl⟩ I
  rw [kJ,av8] at aq;refine gr ?_;exact bp.mk (j+1,rv,fE) I ⟨aw,xn,IA,by show fE.length≤24*(j+1);simpa using eY,aq⟩ ck (aI.all _) tR
 rintro s₁ x rem K ⟨rv,fE,xn,Ek,eY,qk,kJ,rfl⟩ I;have IB:=qk x i8;have IC:=xz IB.1 IB.2;have tT:=fun f11=>Xn rv fE ag xn f11 x ag (fun y ax=>by have:=xz (Ek y ax).1 (Ek y ax).2;omega)
 rw [ah4] at kJ;rw [ao.cp];unfold ao.cells;have cj:=A2 x.path .bc ag;have BK:kn fE x=if fE.any (fun y=>h3 y x) then fE else fE++[x]:=rfl
 have El:jA (bT p) (fE++[x]):=fun y ax=>by
  rcases ae4.1 ax with ax|ax
  ·exact Ek y ax
  ·rw [t6.1 ax];exact IB
 have Em:(fE++[x]).length+rem.length≤24*(j+1):=by
  simp only [i0,f8,af7] at eY ⊢;omega
 have nz:(fE++[x]).map ao.cells=fE.map ao.cells++[x.cells]:=by simp
 have En:((fE++[x]).map ao.cells).flatten=(fE.map ao.cells).flatten++x.cells:=by rw [nz];simp
 have tU:(fE++[x]).length=fE.length+1:=by simp
 unfold nQ at I ⊢;rcases rv with _|⟨g,cap,cs⟩
 all_goals
  simp only [qe,rr,oy,ao.cells] at tT;simp only [qe,rr,eu] at I ⊢
 ·have bu:fE=[]:=xn
  subst bu
  repeat (first|(refine GA I ?_;clear I;intro I)|refine aa.dK ai I rfl rfl rfl rfl rfl rfl rfl (fun cA I=>?_))
  refine aa.b7 rfl rfl rfl rfl rfl (tT cA) I a1 ?_ (fun _ _ ⟨h,_⟩ _=>by cases h);rintro _ _ ⟨⟨⟩,rfl⟩ I;simp only [d8,ad'] at I ⊢;have mK:([]:List ao).any (fun y=>h3 y x)=false:=rfl;refine cv I ?_;intro I;refine ae.qT ai mixed C (bd.run C ?_);refine bd.dK 0 ai I C C C C C C C C C (fun YR I=>?_);refine bd.run C ?_;refine bd.many C (hQ.c (kg.Dg (i:=1) C C C (a6.cM ai I C C C C C C C aZ C (X:=fun _ _=>False)) ?_ (fun _ _ h=>False.elim h)) (hQ.c (kg.Dg (i:=2) C C C (a6.cM ai I C C C C C C C aZ C (X:=fun _ _=>False)) ?_ (fun _ _ h=>False.elim h)) hQ.n))
  ·rintro _ _ ⟨rfl,I⟩
   refine bd.run C ?_;refine bd.cM 2 ai I C C C C C C C C C C C aZ bZ (fun I=>?_);refine bd.run C ?_;refine bd.ez 3 ai I C C C C C C C C aZ bZ ?_;refine bd.run C ?_;refine bd.done C ?_;refine tn ?_;refine ae.qS (dI [(ct,_),(cA,_)]) ai mixed C (bm.run (dI.two (bo.get aZ I) (bo.get aZ I)) C ?_);refine bm.oa 4 ai (dI.two (bo.get aZ I) (bo.get aZ I)) C C C C C C C C (fun _ h=>dI.fst h) bZ ?_;refine bm.oa 5 ai (dI.two (bo.get aZ I) (bo.get aZ I)) C C C C C C C C (fun _ h=>dI.snd h) bZ ?_;refine bm.run (dI.two (bo.get aZ I) (bo.get aZ I)) C ?_;refine bm.sv 7 ai I C C C C C C C C C er C C C C C C C ec (fun dk gq gb I _=>(dI.two (bo.get aZ I) (bo.get aZ I))) (fun dk gq gb cQ cV e3 I=>?_);refine bm.run (dI.two (bo.get aZ I) (bo.get aZ I)) C ?_;refine bm.cM 10 ai I C C C C C C C C C C C aZ bZ (fun _ => .inr C) (fun I=>?_);refine bd.done C ?_;refine gr ?_;exact At.mk (nQ p n ct dR cH (some (dk,gq,gb)) ([]++[x])) I (by simp only [nQ,qe,rr,eu,tU];exact a1) ⟨some (dk,gq,gb),[]++[x],⟨cQ,u6,by rw [En];exact e3⟩,El,Em,fun y ax=>qk y (i6 _ ax),by rw [kJ,BK,mK];rfl,rfl⟩
  ·rintro _ _ ⟨rfl,I⟩
   refine bd.run C ?_;refine bd.cM 1 ai I C C C C C C C C C C C aZ bZ (fun I=>?_);refine bd.run C ?_;refine bd.ez 3 ai I C C C C C C C C aZ bZ ?_;refine bd.run C ?_;refine bd.done C ?_;refine cv I ?_;intro I;refine aa.D8 ai C C C C C C C C C C ?_;refine aa.sv ai I C C C C C C C er C C C C C C C ec (fun dk gq gb cQ cV e3 I=>?_);refine cv I ?_;intro I;refine aa.fc ai ([]:List ao).length C C C C C C C C C C ba ?_;refine aa.jv ai I _ C C C C C C C C C aZ (by rw [cQ];show ([]:List ao).length*6+6≤gq*6;simp only [af7] at *;omega) C (fun I=>?_);obtain ⟨cd,b1⟩:=OA (x:=x) (l:=([]:List ao)) (cs:=gb) (zc:=_) rfl e3;refine gf ?_;exact At.mk (nQ p n ct dR cH (some (dk,gq,(eS (([]:List ao).length*6) x.cells gb))) ([]++[x])) I (by simp only [nQ,qe,rr,eu,tU];exact a1) ⟨some (dk,gq,(eS (([]:List ao).length*6) x.cells gb)),[]++[x],⟨cd.trans cQ,u6,by rw [En];exact b1⟩,El,Em,fun y ax=>qk y (i6 _ ax),by rw [kJ,BK,mK];rfl,rfl⟩
 ·obtain ⟨k0,kV,BJ⟩:=xn
  repeat (first|(refine GA I ?_;clear I;intro I)|refine aa.dK ai I rfl rfl rfl rfl rfl rfl rfl (fun cA I=>?_))
  refine aa.b7 rfl rfl rfl rfl rfl (tT cA) I a1 ?_ (fun _ _ ⟨h,_⟩ _=>by cases h);rintro _ _ ⟨⟨⟩,rfl⟩ I;simp only [d8,ad'] at I ⊢;cases mK:fE.any (fun y=>h3 y x) with
  | true=>
   refine bD ?_;exact At.mk (nQ p n ct dR cH (some (g,cap,cs)) fE) I (by simp only [nQ,qe,rr,eu];exact a1) ⟨some (g,cap,cs),fE,⟨k0,kV,BJ⟩,Ek,by simp only [i0] at eY;omega,fun y ax=>qk y (i6 _ ax),by rw [kJ,BK,mK];rfl,rfl⟩
  | false=>
  refine cv I ?_;intro I;refine ae.qT ai mixed C (bd.run C ?_);refine bd.dK 0 ai I C C C C C C C C C (fun YR I=>?_);refine bd.run C ?_;refine bd.many C (hQ.c (kg.Dg (i:=1) C C C (a6.cM ai I C C C C C C C aZ C (X:=fun _ _=>False)) ?_ (fun _ _ h=>False.elim h)) (hQ.c (kg.Dg (i:=2) C C C (a6.cM ai I C C C C C C C aZ C (X:=fun _ _=>False)) ?_ (fun _ _ h=>False.elim h)) hQ.n))
  ·rintro _ _ ⟨rfl,I⟩
   refine bd.run C ?_;refine bd.cM 2 ai I C C C C C C C C C C C aZ bZ (fun I=>?_);refine bd.run C ?_;refine bd.ez 3 ai I C C C C C C C C aZ bZ ?_;refine bd.run C ?_;refine bd.done C ?_;refine tn ?_;refine ae.qS (dI [(ct,_),(cA,_)]) ai mixed C (bm.run (dI.two (bo.get aZ I) (bo.get aZ I)) C ?_);refine bm.oa 4 ai (dI.two (bo.get aZ I) (bo.get aZ I)) C C C C C C C C (fun _ h=>dI.fst h) bZ ?_;refine bm.oa 5 ai (dI.two (bo.get aZ I) (bo.get aZ I)) C C C C C C C C (fun _ h=>dI.snd h) bZ ?_;refine bm.run (dI.two (bo.get aZ I) (bo.get aZ I)) C ?_;refine bm.sw 7 ai I C C C C C C C C C er C C C C aZ k0 kV C C C C BB ag (fun dk gq gb I _=>(dI.two (bo.get aZ I) (bo.get aZ I))) (fun dk gq gb cQ cV e3 I=>?_);refine bm.run (dI.two (bo.get aZ I) (bo.get aZ I)) C ?_;refine bm.cM 10 ai I C C C C C C C C C C C aZ bZ (fun _ => .inr C) (fun I=>?_);refine bd.done C ?_;refine gr ?_;exact At.mk (nQ p n ct dR cH (some (dk,gq,gb)) (fE++[x])) I (by simp only [nQ,qe,rr,eu,tU];exact a1) ⟨some (dk,gq,gb),fE++[x],⟨by rw [tU] at *;exact cQ,by rw [tU];exact cV,by rw [En,tU,← BJ];exact e3⟩,El,Em,fun y ax=>qk y (i6 _ ax),by rw [kJ,BK,mK];rfl,rfl⟩
  ·rintro _ _ ⟨rfl,I⟩
   refine bd.run C ?_;refine bd.cM 1 ai I C C C C C C C C C C C aZ bZ (fun I=>?_);refine bd.run C ?_;refine bd.ez 3 ai I C C C C C C C C aZ bZ ?_;refine bd.run C ?_;refine bd.done C ?_;refine cv I ?_;intro I;refine aa.q1 ai C C C C C C C ?_;skip;refine aa.D8 ai C C C C C C C C C C ?_;refine aa.sw ai I C C C C C C C er C C C C aZ k0 kV C C C C BB ag (fun dk gq gb cQ cV e3 I=>?_);refine cv I ?_;intro I;refine aa.fc ai fE.length C C C C C C C C C C ba ?_;refine aa.jv ai I _ C C C C C C C C C aZ (by rw [cQ];show fE.length*6+6≤gq*6;simp only [af7] at *;omega) C (fun I=>?_);obtain ⟨cd,b1⟩:=OA (x:=x) (l:=fE) (cs:=gb) (zc:=_) rfl (by rw [← BJ];exact e3);refine gf ?_;exact At.mk (nQ p n ct dR cH (some (dk,gq,(eS (fE.length*6) x.cells gb))) (fE++[x])) I (by simp only [nQ,qe,rr,eu,tU];exact a1) ⟨some (dk,gq,(eS (fE.length*6) x.cells gb)),fE++[x],⟨cd.trans cQ,by rw [tU];exact cV,by rw [En,tU];exact b1⟩,El,Em,fun y ax=>qk y (i6 _ ax),by rw [kJ,BK,mK];rfl,rfl⟩
def eE (p:bR) (n:Int) (c3 vs:af) (an cH ct:Nat):bQ×dC:=(.own ct,.box 110 (eu p n c3 vs an cH))
theorem YS (x f:ao) (ab:x.path.length<bB) (a7:f.path.length<bB):eC d0 (.func 175 [] [.br f.cells 0]) [x.bW] (.bool (h3 x f)):=by
 have U:=MK x f ab a7;have U:aV d0 104 [x.bW,f.bW] (.bool (h3 x f)):=U;refine eC.fk (first:=[]) (cap:=[.br f.cells 0]) ?_;refine aV.bl ai Tryz.func175 C C fun s I=>?_
 rw [ao.cp,ao.cp] at U;rw [ao.cp];unfold ao.cells at *;refine cB ?_;exact bA I
def BL (l:List ao) (f:ao):Prop:=∀ x∈mJ f,l.any (fun y=>h3 y x)=true
theorem OB:∀ {ks:List ao} {k x:ao},k∈ks→x∈mJ k→x∈pw ks
  | y::r,k,x,h,ab=>by
    rw [pw];rcases af1.1 h with rfl|h
    · exact ai' _ ab
    · exact an5 _ (OB h ab)
theorem BL.ID {l:List ao} {f k:ao} (h:BL l f) (aE:f.c0=false) (aA:k∈f.kids):BL l k:=fun x ab=>h x (by
 rw [H2,aE,d9 ba];exact OB aA ab)
theorem YT (p:bR) (n:Int) (l:List ao) (vs:af) (an cH ct:Nat) (w:bx) (gj:l.length≤7) (de:jA w l) (v:Nat) (au:v<2^63):∀ (k:Nat) (f:ao),f.size≤k→gM w f=true→BL l f →
    bF d0 128 [.ptr ct 0,f.bW,.int .i64 (v:Int)] [eE p n (d' l) vs an cH ct] (fun o K=>o = .ret (.bool (tM l v f))∧K=[eE p n (d' l) vs an cH ct]):=by
  have n6:bB=1099511627776:=rfl;intro k
  induction k with
  | zero=>intro x h;have:=x.size_eq;omega
  | succ k aX=>
    intro f az av fo;have iD:=f.size_eq;have jx:=Xe l v f;have YU:=av;rw [p4,f9] at av;obtain ⟨pn,po⟩:=av;refine bF.bl ai Tryz.func128 C C fun s I=>?_
    rw [ao.cp];unfold eE eu d' at *;rcases DO pn with ⟨U,ad⟩|⟨aE,ad,U⟩|⟨U,x,ad⟩|⟨U,x,y,ad⟩
    · rw [U,g6 C] at jx
      rw [jx];unfold ao.cells;rw [U];refine bD ?_;exact Fin.bt I C aO (aI.all _) ⟨rfl,rfl⟩
    · have bY:f.op=2∨f.op=3∨f.op=4:=by unfold ao.c0 at aE;simp at aE;omega
      have sD:=xz YU aE;have mK:=fo f (by rw [H2,aE,g6 C];exact t6.2 C);obtain ⟨i,aN⟩:∃ i,l.findIdx? (fun x=>h3 x f)=some i:=by
        cases h:l.findIdx? (fun x=>h3 x f) with
        | some i=>exact ⟨i,rfl⟩
        | none=>
          rw [ah'] at h;obtain ⟨z,bE,CH⟩:=ag5.1 mK;rw [h z bE] at CH;cases CH
      have l5:i<l.length:=(ah3.1 aN).1;have Eo:=UW (.func 175 [] [.br f.cells 0]) (fun x=>h3 x f) l ag (fun x ab=>YS x f (by have:=xz (de x ab).1 (de x ab).2;omega) ag);rw [aN] at Eo;simp only at Eo;have jx:tM l v f=v.testBit i:=by
        rw [jx,d9 ag,d9 ag,d9 ag,d9 ag,aN]
      rw [jx,← yY];unfold ao.cells at Eo ⊢;rcases bY with h|h|h
      all_goals
        rw [h] at Eo ⊢;refine gK I ?_;intro I;refine aa.shr _ C C C C C C ag (r6 ag) ?_;refine aa.bits _ C C C C C C (q3 (n:=1) (Nat.lt_of_le_of_lt (Nat.shiftRight_le v i) au) ag) ?_;refine eA ?_;exact Fin.bt I C aO (aI.all _) ⟨rfl,rfl⟩
    · have aE:f.c0=false:=by unfold ao.c0;rw [U];rfl
      have ab:=ao.iQ (l:=f.kids) (x:=x) m7;have i1:=aX x ag (l2 po m7) (fo.ID aE m7);have cd:([x].map ao.bW)[0]? = some (.agg x.cells):=by rw [← ao.cp];rfl
      rw [U,d9 ag,g6 C,ad,D2 l v 0 [x] x C] at jx;rw [jx];rw [ao.cp] at i1;unfold ao.cells;rw [U,ad];refine bD ?_;refine aa.b7 rfl rfl rfl rfl rfl i1 I (aI.all _) ?_ (fun _ _ ⟨h,_⟩ _=>by cases h);rintro _ _ ⟨⟨⟩,rfl⟩ I;rw [d7] at I ⊢;refine e8 ?_;exact Fin.bt I C aO (aI.all _) ⟨rfl,rfl⟩
    · have aE:f.c0=false:=by unfold ao.c0;rcases U with U|U<;>rw [U]<;>rfl
      have ab:=ao.iQ (l:=f.kids) (x:=x) m7;have ax:=ao.iQ (l:=f.kids) (x:=y) u0;have i1:=aX x ag (l2 po m7) (fo.ID aE m7);have i2:=aX y ag (l2 po u0) (fo.ID aE u0);have cd:([x,y].map ao.bW)[0]? = some (.agg x.cells):=by rw [← ao.cp];rfl
      have b1:([x,y].map ao.bW)[1]? = some (.agg y.cells):=by rw [← ao.cp];rfl
      rw [ao.cp] at i1 i2;rw [ad,D2 l v 0 [x,y] x C,D2 l v 1 [x,y] y C] at jx;unfold ao.cells;rw [ad];rcases U with U|U
      all_goals
        rw [U] at jx ⊢;cases A9:tM l v x with
        | true=>
          rw [A9] at jx i1;simp at jx;rw [jx];refine bD ?_;refine aa.b7 rfl rfl rfl rfl rfl i1 I (aI.all _) ?_ (fun _ _ ⟨h,_⟩ _=>by cases h);rintro _ _ ⟨⟨⟩,rfl⟩ I;rw [d7] at I ⊢;refine bD ?_
          first
            | exact Fin.bt I C aO (aI.all _) ⟨rfl,rfl⟩
            | (refine aa.b7 rfl rfl rfl rfl rfl i2 I (aI.all _) ?_ (fun _ _ ⟨h,_⟩ _=>by cases h)
               rintro _ _ ⟨⟨⟩,rfl⟩ I
               rw [d7] at I ⊢
               refine e8 ?_
               exact Fin.bt I C aO (aI.all _) ⟨rfl,rfl⟩)
        | false=>
          rw [A9] at jx i1;simp at jx;rw [jx];refine bD ?_;refine aa.b7 rfl rfl rfl rfl rfl i1 I (aI.all _) ?_ (fun _ _ ⟨h,_⟩ _=>by cases h);rintro _ _ ⟨⟨⟩,rfl⟩ I;rw [d7] at I ⊢;refine bD ?_
          first
            | exact Fin.bt I C aO (aI.all _) ⟨rfl,rfl⟩
            | (refine aa.b7 rfl rfl rfl rfl rfl i2 I (aI.all _) ?_ (fun _ _ ⟨h,_⟩ _=>by cases h)
               rintro _ _ ⟨⟨⟩,rfl⟩ I
               rw [d7] at I ⊢
               refine e8 ?_
               exact Fin.bt I C aO (aI.all _) ⟨rfl,rfl⟩)
theorem xC (gen:Int) (l:List ao) (v:Nat):∀ (ms:List hS) (i:Nat),(qd gen l v i ms).length≤ms.length
  | [],_=>g9 _
  | m::r,i=>by
    have:=xC gen l v r (i+1);rw [qd];split<;>simp<;>omega
def BM (p:bR) (n:Int) (l:List ao):Prop:=∀ m∈p.methods,m.gen=n→BL l m.fact
theorem OC (p:bR) (aD:gC p) (eD:gu p=true) (n:Int) (l:List ao) (vs:af) (an cH ct:Nat) (gj:l.length≤7) (de:jA (bT p) l) (fJ:BM p n l) (v:Nat) (au:v<2^63) :
  bF d0 81 [.ptr ct 0,.int .i64 (v:Int)] [eE p n (d' l) vs an cH ct] (fun o K=>o = .ret (bg (c' p n l v))∧K=[eE p n (d' l) vs an cH ct]):=by
 have n6:bB=1099511627776:=rfl;obtain ⟨xB,YQ⟩:=xA eD;have YV:=fun f U ad=>YT p n l vs an cH ct (bT p) gj de v au f.size f (g9 _) U ad
 refine bF.bl ai Tryz.func81 C C fun s I=>?_
 unfold eE eu at *;refine gK I ?_;intro I;refine ae.ih I 3 1 0 fun I=>?_
 refine ae.b9 [0,1,12,13] C I (σ:=Nat×List Int×bQ) (fun q=>[(14,.int .i64 (q.1:Int)),(5,.aB 1 (q.2.1.map bb) q.2.2)]) (fun q=>[(q.2.2,.row 3 1 q.2.1.length),eE p n (d' l) vs an cH ct]) (fun q=>q.1≤p.methods.length∧q.2.1.length≤q.1∧c' p n l v=q.2.1++qd n l v q.1 (p.methods.drop q.1)) (fun q=>p.methods.length-q.1) (0,[],.nil)
  ⟨g8 _,g9 _,rfl⟩ ⟨⟨_,rfl,aO⟩,⟨_,rfl,aU.nil hk⟩,trivial⟩ (by simp only [eE,eu];exact a1) ?_
 rintro ⟨j,out,gA⟩ ⟨aH,gz,aq⟩ I;simp only [eE,eu] at aH gz aq I ⊢;refine b8 ?_;refine ae.cond C (fun aw=>?_) (fun aY=>?_);rotate_left
 ·have aY:j=p.methods.length:=by simp at aY;omega
  rw [eG ag,qd,d7] at aq;rw [aq];refine ef ?_;exact Fin.bt (K:=[eE p n (d' l) vs an cH ct]) I C aU.bc (by simp only [eE,eu];exact a1) ⟨rfl,rfl⟩
 have aw:j<p.methods.length:=by simpa using aw
 obtain ⟨m,ab,bP⟩:=b5 (f:=nF) aw;have gm:=d6 ab;rw [drop_cons ab,qd] at aq;unfold nF pa at bP;by_cases av:m.gen=n
 ·have cY:=YV m.fact (uX _ _ _ _ (Iy eD gm)) (fJ m gm av)
  rw [ao.cp] at cY;unfold ao.cells at cY;rw [av] at bP aq;rw [show decide (n=n)=true by simp,f5] at aq
  repeat (first|(refine uN I ?_;clear I;intro I)|refine aa.dK ai I rfl rfl rfl rfl rfl rfl rfl (fun cA I=>?_))
  refine ae.mu I 7 cA C .here (fun I=>?_);refine ae.uV I ct (.there .here) ai mixed C ?_;refine db ?_;refine aM.split 26 C (fun _=>?_) (fun h=>by simp at h);refine jH ?_;refine aM.vf rfl rfl rfl rfl rfl rfl cY I a1 (fun _ _ h=>by obtain ⟨-,rfl⟩:=h;exact ⟨_,.here⟩) ?_ (fun _ _ ⟨h,_⟩ _=>by cases h);rintro _ _ ⟨⟨⟩,rfl⟩ I;simp only [ad',d8] at I ⊢;cases qH:tM l v m.fact with
  | true=>
   rw [qH,g6 C] at aq;refine db ?_;refine aa.gn ai I C C C C C C C er C C C C C C C C aZ hy ki ag (fun b0 I=>?_);refine gf ?_;exact bp.mk (j+1,out++[(j:Int)],.own b0) I ⟨aw,by simp;omega,by rw [aq];simp⟩ Av (by show aI _ [(_,.row _ _ (out++[(j:Int)]).length),eE p n (d' l) vs an cH ct] _;rw [f8];exact (by simp only [eE,eu];exact a1)) tR
  | false=>
   rw [qH,d9 ba] at aq;refine kh ?_;exact bp.mk (j+1,out,gA) I ⟨aw,by show out.length≤j+1;omega,aq⟩ ck (by simp only [eE,eu];exact a1) tR
 ·rw [show decide (m.gen=n)=false by simpa using av,f6,d9 ba] at aq
  repeat (first|(refine uN I ?_;clear I;intro I)|refine aa.dK ai I rfl rfl rfl rfl rfl rfl rfl (fun cA I=>?_))
  refine ae.mu I 7 cA C .here (fun I=>?_);refine ae.uV I ct (.there .here) ai mixed C ?_;refine db ?_;refine aM.split 26 C (fun h=>absurd fV av) (fun _=>?_);refine kh ?_;exact bp.mk (j+1,out,gA) I ⟨aw,by show out.length≤j+1;omega,aq⟩ ck (by simp only [eE,eu];exact a1) tR
theorem IE {α:Type} {f:Nat→α→Bool}:∀ {l:List α} {k j:Nat},od f k l=some j→k≤j∧j<k+l.length∧∃ x,l[j-k]? = some x∧f j x=true
  | x::r,k,j,h=>by
    rw [od] at h;split at h
    · rename_i aed aH
      cases h;obtain ⟨U,ad,y,aj,a'⟩:=IE aH;refine ⟨by omega,by rw [i0];omega,y,?_,a'⟩;rw [show j-k=(j-(k+1))+1 by omega];exact aj
    · split at h
      · cases h
        rename_i a7;exact ⟨g9 _,by rw [i0];omega,x,by rw [an6];rfl,a7⟩
      · cases h
theorem pC:∀ (l:List bw) (i:Nat),(b3 i l).1.length=l.length∧(b3 i l).2.length=l.length
  | [],i=>⟨rfl,rfl⟩
  | x::r,i=>by
    have:=pC r (i+1);rw [b3];simp only [i0];omega
def YW (n i:Nat) (l:List bw):Prop:=∀ k,k<l.length →
 ((i:Int)+k≤(b3 i l).1.getD k 0∧(b3 i l).1.getD k 0<n)∧((b3 i l).2.getD k default).atom=(l.getD k default).atom∧((b3 i l).2.getD k default).ms=(l.getD k default).ms ∧
 (((b3 i l).2.getD k default).atom≥0→(i:Int)+k<((b3 i l).2.getD k default).no∧((b3 i l).2.getD k default).no<n∧(i:Int)+k<((b3 i l).2.getD k default).yes∧((b3 i l).2.getD k default).yes<n)
theorem IF {n:Nat}:∀ (l:List bw) (i:Nat),i+l.length=n→(∀ (k:Nat) (x:bw),l[k]? = some x→x.atom≥0→((i+k:Nat):Int)<x.no∧x.no<n∧((i+k:Nat):Int)<x.yes∧x.yes<n)→YW n i l
  | [],_,_,_=>fun k aA=>absurd aA (Nat.not_lt_zero _)
  | x::r,i,az,a7=>by
    have aX:=IF (n:=n) r (i+1) (by rw [i0] at az;omega) (fun k y ax=>by
      have:=a7 (k+1) y (by simpa using ax)
      rwa [show i+(k+1)=i+1+k by omega] at this)
    have aE:=pC r (i+1);rw [i0] at az;have bu:=a7 0 x C;intro k aA;cases k with
    | succ k=>
      have:=aX k (by rw [i0] at aA;omega);rw [b3];simp only [List.getD_cons_succ];obtain ⟨⟨dN,a2⟩,a3,a4,a5⟩:=this;refine ⟨⟨by push_cast at dN ⊢;omega,a2⟩,a3,a4,fun h=>?_⟩;obtain ⟨ha,dk,ny,oE⟩:=a5 h;exact ⟨by push_cast at ha ⊢;omega,dk,by push_cast at ny ⊢;omega,oE⟩
    | zero=>
      have aR:x.atom≥0→(i:Int)<x.no∧x.no<n∧(i:Int)<x.yes∧x.yes<n:=fun h=>bu h
      have ka:∀ m:Int,(i:Int)<m→m<n→(i:Int)<(b3 (i+1) r).1.getD (m.toNat-(i+1)) 0∧(b3 (i+1) r).1.getD (m.toNat-(i+1)) 0<n:=fun m U ad=>by
        have:=(aX (m.toNat-(i+1)) ag).1;omega
      rw [b3];simp only [List.getD_cons_zero];refine ⟨?_,by split<;>rfl,by split<;>rfl,?_⟩
      · split
        · rename_i j aH
          obtain ⟨U,ad,-⟩:=IE aH;omega
        · omega
      · split
        · rename_i h
          intro _;obtain ⟨ha,dk,ny,oE⟩:=aR h;have cQ:=ka x.no ha dk;have cV:=ka x.yes ny oE;simp only;omega
        · rename_i h
          intro ad;exact absurd ad h
theorem OD {α:Type} (f:Nat→α→Bool) (x:α):∀ (l:List α) (k:Nat),od f k (l++[x])=if f (k+l.length) x then some (k+l.length) else od f k l
  | [],k=>by rw [d8,od,od];rfl
  | y::r,k=>by
    have e:k+1+r.length=k+(y::r).length:=by rw [i0];omega
    rw [ad',od,OD f x r (k+1),e,od];by_cases h:f (k+(y::r).length) x=true
    · rw [g6 h,g6 h]
    · rw [d9 h,d9 h]
structure nR (g:List bw):Prop where
 pos:1≤g.length
 len:g.length≤1000
 ms:∀ x∈g,x.ms.length≤16
 eU:∀ (i:Nat) (x:bw),g[i]? = some x→x.atom≥0→(i:Int)<x.no∧x.no<g.length∧(i:Int)<x.yes∧x.yes<g.length
def il (g:List bw) (m:Nat):List Int:=ab' m 0++(b3 m (g.drop m)).1
def lb (g:List bw) (m:Nat):List bw:=g.take m++(b3 m (g.drop m)).2
theorem Ep (g:List bw) {m:Nat} (h:m≤g.length):(il g m).length=g.length:=by
 unfold il;rw [f8,ag1,(pC _ _).1,ai5];omega
theorem IG (g:List bw) {m:Nat} (h:m≤g.length):(lb g m).length=g.length:=by
 unfold lb;rw [f8,ae8,(pC _ _).2,ai5];omega
theorem Er (g:List bw) (m:Nat) (j:Nat):(il g m).getD (m+j) 0=(b3 m (g.drop m)).1.getD j 0:=by
 unfold il;rw [d5,d5,af0 uO,ag1,ar']
theorem YX (g:List bw) {m:Nat} (h:m≤g.length) (j:Nat):(lb g m)[m+j]? = (b3 m (g.drop m)).2[j]?:=by
 unfold lb;rw [af0 ui,ae8,am6 h,ar']
theorem YY (g:List bw) {m i:Nat} (h:i<m) (hm:m≤g.length):(lb g m)[i]? = g[i]?:=by
 unfold lb;rw [af' ui,ai2,g6 h]
def oF (g:List bw) (m:Nat) (x:bw):bw:=if x.atom≥0 then { x with no:=(il g (m+1)).getD x.no.toNat 0,yes:=(il g (m+1)).getD x.yes.toNat 0 } else x
def sE (g:List bw) (m:Nat) (y:bw) (j:Nat) (z:bw):Bool:=(b3 (m+1) (g.drop (m+1))).1.getD j 0==((m+1+j:Nat):Int)&&z==y
theorem OE {g:List bw} (av:nR g) {m:Nat} {x:bw} (ab:g[m]? = some x) :
  b3 m (g.drop m)=((match od (sE g m (oF g m x)) 0 (b3 (m+1) (g.drop (m+1))).2 with
   | some j=>((m+1+j:Nat):Int)
   | none=>(m:Int))::(b3 (m+1) (g.drop (m+1))).1,oF g m x::(b3 (m+1) (g.drop (m+1))).2):=by
 have aw:m<g.length:=(t7.1 ab).1;have ay:g.drop m=x::g.drop (m+1):=by
  rw [List.drop_eq_getElem_cons aw,(t7.1 ab).2]
 rw [ay,b3];have ax:(if x.atom≥0 then { x with no:=(b3 (m+1) (g.drop (m+1))).1.getD (x.no.toNat-(m+1)) 0,yes:=(b3 (m+1) (g.drop (m+1))).1.getD (x.yes.toNat-(m+1)) 0 } else x)=oF g m x:=by
  unfold oF;split
  ·rename_i h
   have:=av.eU m x ab h;rw [← Er,← Er,show m+1+(x.no.toNat-(m+1))=x.no.toNat by omega,show m+1+(x.yes.toNat-(m+1))=x.yes.toNat by omega]
  ·rfl
 simp only [ax];rfl
theorem YZ (x y:bw):(x==y)=(decide (x.atom=y.atom)&&(decide (x.no=y.no)&&(decide (x.yes=y.yes)&&x.ms==y.ms))):=by
 obtain ⟨a,b,c,d⟩:=x;obtain ⟨c8,aW,tx,c2⟩:=y;rw [af4];simp
theorem gk {α:Type} {l:List α} {m:Nat} {x:α} (h:l[m]? = some x):l.set m x=l:=by
 apply ar0;intro j;rw [as7];split
 ·rename_i e
  subst e;have:=(t7.1 h).1;rw [g6 this,h]
 ·rfl
theorem OF {g:List bw} {m:Nat} {k:Int} {r:List Int} {ys:List bw} (h:b3 m (g.drop m)=(k::r,ys)) (ad:(b3 (m+1) (g.drop (m+1))).1=r):(il g (m+1)).set m k=il g m:=by
 unfold il;rw [h,ad,ap4,af9,al4 _ _ uO,ag1,an6];rfl
theorem Y0 {g:List bw} {m:Nat} {y:bw} {r:List bw} {ks:List Int} (aw:m<g.length) (h:b3 m (g.drop m)=(ks,y::r)) (ad:(b3 (m+1) (g.drop (m+1))).2=r):(lb g (m+1)).set m y=lb g m:=by
 unfold lb;rw [h,ad,an2,f7 aw,af9,al4 _ _ ui,ae8,am6 ag,an6];rfl
theorem IH:∀ (l:List bw) (i k:Nat) (z:bw),(b3 i l).2[k]? = some z→∃ x∈l,z.ms=x.ms
  | [],i,k,z,h=>by rw [b3] at h;cases h
  | x::r,i,0,z,h=>by
    rw [b3] at h;simp only [as0,al'.injEq] at h;refine ⟨x,i8,?_⟩;rw [← h];split<;>rfl
  | x::r,i,k+1,z,h=>by
    rw [b3] at h;simp only [ak0] at h;obtain ⟨y,U,ad⟩:=IH r (i+1) k z h;exact ⟨y,i6 _ U,ad⟩
theorem Y1 (g:List bw) (m:Nat) (x:bw):(oF g m x).ms=x.ms:=by unfold oF;split<;>rfl
def bI.all (P:List Int→Prop):bI→Prop
 | .leaf ms=>P ms
 | .test _ a b=>a.all P∧b.all P
def bI.rC (A:Nat):bI→Prop
 | .leaf _=>True
 | .test i a b=>i<A∧a.rC A∧b.rC A
theorem BN {P:List Int→Prop} (A:Nat) (h:Nat→List Int) (bu:P []) (gQ:∀ v,P (h v)):∀ (n:Nat) (vs:List Nat),vs.length≤n→(fF A h vs).all P
  | n,vs,az=>by
    rw [y0];split
    · rw [bI.all]
      cases vs with
      | nil=>exact bu
      | cons v r=>exact gQ v
    · refine H' (Pr:=fun t=>t.all P) (by rw [bI.all];exact bu) (fun _ h=>by cases h) (fun i _ he=>?_)
      have aE:=xh he;cases n with
      | zero=>omega
      | succ n=>
        rw [bI.all];exact ⟨BN A h bu gQ n _ ag,BN A h bu gQ n _ ag⟩
theorem Es (A:Nat) (h:Nat→List Int):∀ (n:Nat) (vs:List Nat),vs.length≤n→(fF A h vs).rC A
  | n,vs,az=>by
    rw [y0];split
    · rw [bI.rC];trivial
    · refine H' (Pr:=fun t=>t.rC A) (by rw [bI.rC];trivial) (fun _ h=>by cases h) (fun i aN he=>?_)
      have aE:=xh he;cases n with
      | zero=>omega
      | succ n=>
        rw [bI.rC];exact ⟨aj8.1 aN,Es A h n _ ag,Es A h n _ ag⟩
theorem II:∀ (t:bI) (L:List bw) (j:Nat) (x:bw),L.length≤j→(bI.laid L t)[j]? = some x→x.atom≥0→(j:Int)<x.no∧x.no<(bI.laid L t).length∧(j:Int)<x.yes∧x.yes<(bI.laid L t).length
  | .leaf ms,L,j,x,aH,ab,aR=>by
    rw [bI.laid,af0 aH] at ab;cases h:j-L.length with
    | zero=>rw [h] at ab;cases ab;simp at aR
    | succ n=>rw [h] at ab;cases ab
  | .test i a b,L,j,x,aH,ab,aR=>by
    have U:=qf a (L++[⟨i,0,0,[]⟩]);have ad:=qf b (bI.laid (L++[⟨i,0,0,[]⟩]) a);have jI:=a.py;have u5:=b.py;have bM:(L++[(⟨i,0,0,[]⟩:bw)]).length=L.length+1:=by simp
    rw [bM] at U;have IJ:=II a (L++[⟨i,0,0,[]⟩]);have IK:=II b (bI.laid (L++[⟨i,0,0,[]⟩]) a);have la:bI.laid L (.test i a b)=(bI.laid (bI.laid (L++[⟨i,0,0,[]⟩]) a) b).set L.length ⟨i,(L.length:Int)+1,((bI.laid (L++[⟨i,0,0,[]⟩]) a).length:Int),[]⟩:=rfl;rw [la] at ab ⊢;rw [ag3];by_cases za:j=L.length
    · subst za
      rw [am2 ag] at ab;cases ab;simp only;omega
    · rw [ap2 ag] at ab
      by_cases IL:j<(bI.laid (L++[⟨i,0,0,[]⟩]) a).length
      · rw [y4 b _ j IL] at ab
        have:=IJ j x ag ab aR;omega
      · have:=IK j x ag ab aR
        omega
theorem IM {P:List Int→Prop} (bu:P []):∀ (t:bI) (L:List bw),t.all P→(∀ x∈L,P x.ms)→∀ x∈bI.laid L t,P x.ms
  | .leaf ms,L,aL,bM,x,ab=>by
    rw [bI.laid] at ab;rcases ae4.1 ab with ab|ab
    · exact bM x ab
    · rw [t6.1 ab];exact aL
  | .test i a b,L,aL,bM,x,ab=>by
    have la:bI.laid L (.test i a b)=(bI.laid (bI.laid (L++[⟨i,0,0,[]⟩]) a) b).set L.length ⟨i,(L.length:Int)+1,((bI.laid (L++[⟨i,0,0,[]⟩]) a).length:Int),[]⟩:=rfl;rw [la] at ab;rcases al0 ab with ab|rfl
    · refine IM bu b _ aL.2 (IM bu a _ aL.1 (fun y ax=>?_)) x ab
      rcases ae4.1 ax with ax|ax
      · exact bM y ax
      · rw [t6.1 ax];exact bu
    · exact bu
theorem OG {t:bI} (aL:t.all (fun ms=>ms.length≤16)) (aE:t.leaves≤500):nR (bI.laid [] t):=by
 have U:=qf t [];have ad:=t.py;rw [af7] at U;exact ⟨by omega,by omega,IM (P:=fun ms=>ms.length≤16) ba t [] aL (fun _ h=>by cases h),fun i x ab aR=>II t [] i x (g8 _) ab aR⟩
theorem Y2 {g:List bw} (h:hn g=true):nR g:=by
 obtain ⟨U,ad⟩:=wS h;refine ⟨U,by omega,fun x ab=>?_,fun i x ab aR=>?_⟩
 ·obtain ⟨i,aN⟩:=ag2 ab
  have az:=tB h aN;by_cases aR:x.atom = -1
  ·exact ((m5 aR).1 az).2.2.1
  ·have:=((kk aR).1 az).2.2.2.2.2.2
   omega
 ·have:=(kk ag).1 (tB h ab)
  omega
def IN (es:List (af×af)):Prop:=∀ e∈es,∃ n:Int,e.1 = .int .i64 n
theorem IP {x:Int} {v:af}:∀ {es:List (af×af)},IN es→∃ du,lR es (.int .i64 x) v=some du∧IN du∧∀ y:Int,iX du (.int .i64 y)=if y=x then some (some v) else iX es (.int .i64 y)
  | [],_=>⟨[(.int .i64 x,v)],rfl,fun e he=>by rw [t6.1 he];exact ⟨x,rfl⟩,fun y=>by
    rw [iX,iX]
    by_cases h:y=x
    · subst h;simp [j9]
    · have:(y==x)=false:=by rw [beq_eq_false_iff_ne];exact h
      simp only [j9,ag7,this,d9 h];rfl⟩
  | e::r,h=>by
    obtain ⟨n,az⟩:=h e i8;obtain ⟨k,u⟩:=e;have az:k = .int .i64 n:=az;subst az;by_cases ab:n=x
    · subst ab
      refine ⟨(.int .i64 n,v)::r,by rw [lR];simp [j9],fun e he=>?_,fun y=>?_⟩
      · rcases af1.1 he with rfl|he
        · exact ⟨n,rfl⟩
        · exact h e (i6 _ he)
      · rw [iX,iX]
        by_cases ax:y=n
        · subst ax;simp [j9]
        · have:(y==n)=false:=by rw [beq_eq_false_iff_ne];exact ax
          simp only [j9,ag7,this,d9 ax]
    · obtain ⟨du,U,ad,aj⟩:=IP (x:=x) (v:=v) (es:=r) fun e he=>h e (i6 _ he)
      have an:(x==n)=false:=by rw [beq_eq_false_iff_ne];exact fun e=>ab e.symm
      refine ⟨(.int .i64 n,u)::du,by rw [lR];simp only [j9,ag7,an,U],fun e he=>?_,fun y=>?_⟩
      · rcases af1.1 he with rfl|he
        · exact ⟨n,rfl⟩
        · exact ad e he
      · rw [iX,iX,aj]
        by_cases ax:y=n
        · subst ax
          simp [j9,ab]
        · have:(y==n)=false:=by rw [beq_eq_false_iff_ne];exact ax
          simp only [j9,ag7,this]
structure ql (num:List (af×af)) (order path:List Int):Prop where
 int:IN num
 get:∀ x:Int,iX num (.int .i64 x)=some (if order.contains x then some (.int .i64 (placeOf order x)) else if path.contains x then some (.int .i64 (-1)) else none)
theorem ql.empty:ql [] [] []:=⟨fun _ h=>nX,fun _=>rfl⟩
theorem ql.enter {num:List (af×af)} {order path:List Int} (h:ql num order path) {eU:Int} (U:order.contains eU=false) :
  ∃ vn,lR num (.int .i64 eU) (.int .i64 (-1))=some vn∧ql vn order (eU::path):=by
 obtain ⟨es,ad,aj,a'⟩:=IP (x:=eU) (v := .int .i64 (-1)) h.int;refine ⟨es,ad,aj,fun x=>?_⟩;rw [a',h.get,as5];by_cases ab:x=eU
 ·subst ab
  rw [g6 C,U];simp
 ·rw [d9 ab,show (x==eU)=false by rw [beq_eq_false_iff_ne];exact ab,ah1]
theorem Y3 {order:List Int} {eU:Int} (h:order.contains eU=false):placeOf (order++[eU]) eU=(order.length:Int):=by
 unfold placeOf;have:(order++[eU]).findIdx? (· == eU)=some order.length:=by
  rw [ay7];have az:order.findIdx? (· == eU)=none:=by
   rw [ah'];intro x ab;rw [beq_eq_false_iff_ne];rintro rfl;rw [ah8.2 ab] at h;cases h
  rw [az];simp [List.findIdx?_cons]
 rw [this];rfl
theorem Y4 {order:List Int} {eU x:Int} (h:order.contains x=true):placeOf (order++[eU]) x=placeOf order x:=by
 unfold placeOf;rw [ay7];cases a7:order.findIdx? (· == x) with
 | some i=>rfl
 | none=>
  rw [ah'] at a7;have:=a7 x (ah8.1 h);simp at this
theorem ql.leave {num:List (af×af)} {order path:List Int} {eU:Int} (h:ql num order (eU::path)) (U:order.contains eU=false) :
  ∃ vn,lR num (.int .i64 eU) (.int .i64 (order.length:Int))=some vn∧ql vn (order++[eU]) path:=by
 obtain ⟨es,ad,aj,a'⟩:=IP (x:=eU) (v := .int .i64 (order.length:Int)) h.int;refine ⟨es,ad,aj,fun x=>?_⟩;rw [a',h.get,an',as5,as5];by_cases ab:x=eU
 ·subst ab
  rw [g6 C,U,Y3 U];simp
 ·rw [d9 ab,show (x==eU)=false by rw [beq_eq_false_iff_ne];exact ab,ah1,ah1]
  cases aF:order.contains x with
  | true=>rw [Y4 aF];simp
  | false=>simp
theorem Y5 {order:List Int} {x:Int} (h:order.contains x=false):placeOf order x=0:=by
 unfold placeOf;have az:order.findIdx? (· == x)=none:=by
  rw [ah'];intro y ax;rw [beq_eq_false_iff_ne];rintro rfl;rw [ah8.2 ax] at h;cases h
 rw [az];rfl
theorem OH (order:List Int) (x:Int):0≤placeOf order x∧placeOf order x≤order.length:=by
 unfold placeOf;cases a7:order.findIdx? (· == x) with
 | none=>exact ⟨by simp,by simp⟩
 | some i=>
  have:=(ah3.1 a7).1;simp;omega
structure ld (n:Nat) (order:List Int):Prop where
 nodup:order.Nodup
 lt:∀ x∈order,0≤x∧x<n
theorem ld.len {n:Nat} {order:List Int} (h:ld n order):order.length≤n:=by
 have ad:order ⊆ (ah0 n).map (fun i:Nat=>(i:Int)):=fun x ab=>by
  have:=h.lt x ab;exact List.mem_map.2 ⟨x.toNat,aj8.2 ag,by omega⟩
 have:=List.Nodup.length_le_of_subset h.nodup ad;simpa using this
def Down (N:List bw):Prop:=∀ (i:Nat) (x:bw),N[i]? = some x→x.atom≥0→(i:Int)<x.no∧x.no<N.length∧(i:Int)<x.yes∧x.yes<N.length
theorem vo {N:List bw} {k a:Nat} {order:List Int} {x:bw} (ab:N[a]? = some x):meet N (k+1) order a=if order.contains (a:Int) then order else (if x.atom≥0 then meet N k (meet N k order x.yes) x.no else order)++[(a:Int)]:=by
 rw [meet];simp only [i9,d5,ab,ae']
theorem ld.snoc {n:Nat} {order:List Int} (h:ld n order) {a:Nat} (aR:a<n) (az:(a:Int)∉order):ld n (order++[(a:Int)]):=⟨by
 rw [List.nodup_append]
 refine ⟨h.nodup,by simp,fun x ab y ax=>?_⟩
 rw [t6.1 ax]
 rintro rfl
 exact az ab,fun x ab=>by
 rcases ae4.1 ab with ab|ab
 ·exact h.lt x ab
 ·rw [t6.1 ab];omega⟩
theorem sF {N:List bw} (dP:Down N):∀ (k a:Nat),a<N.length→N.length-a≤k→∀ order:List Int,ld N.length order→ld N.length (meet N k order a)∧∀ y∈meet N k order a,y∈order∨(a:Int)≤y
  | 0,a,U,ad,_,_=>by omega
  | k+1,a,U,ad,order,ah=>by
    obtain ⟨x,ab⟩:∃ x,N[a]? = some x:=⟨_,f7 U⟩;rw [vo ab];cases aF:order.contains (a:Int) with
    | true=>rw [g6 C];exact ⟨ah,fun y h => .inl h⟩
    | false=>
      rw [d9 ba];have key:ld N.length (if x.atom≥0 then meet N k (meet N k order x.yes) x.no else order)∧∀ y∈(if x.atom≥0 then meet N k (meet N k order x.yes) x.no else order),y∈order∨(a:Int)<y:=by
        split
        · rename_i aR
          obtain ⟨d1,d2,d3,d4⟩:=dP a x ab aR;obtain ⟨y,ax⟩:∃ y:Nat,x.yes=y:=⟨x.yes.toNat,by omega⟩;obtain ⟨z,bE⟩:∃ z:Nat,x.no=z:=⟨x.no.toNat,by omega⟩;rw [ax,bE];obtain ⟨sg,b0⟩:=sF dP k y ag ag order ah;obtain ⟨eQ,zd⟩:=sF dP k z ag ag _ sg;refine ⟨eQ,fun u hu=>?_⟩;rcases zd u hu with h|h
          · rcases b0 u h with h|h
            · exact .inl h
            · exact .inr ag
          · exact .inr ag
        · exact ⟨ah,fun y h => .inl h⟩
      obtain ⟨cF,dj⟩:=key;refine ⟨cF.snoc U (fun hm=>?_),fun y ax=>?_⟩
      · rcases dj _ hm with h|h
        · rw [ah8.2 h] at aF;cases aF
        · omega
      · rcases ae4.1 ax with ax|ax
        · exact (dj y ax).imp id (fun h=>by omega)
        · rw [t6.1 ax];exact .inr (ak6 _)
theorem IQ:∀ (k:Nat) (l:List bw) (i:Nat),(b3 i l).1.drop k=(b3 (i+k) (l.drop k)).1∧(b3 i l).2.drop k=(b3 (i+k) (l.drop k)).2
  | 0,l,i=>⟨rfl,rfl⟩
  | k+1,[],i=>by rw [b3,at5,at5,b3];exact ⟨rfl,rfl⟩
  | k+1,x::r,i=>by
    have:=IQ k r (i+1);rw [b3,ao3];simp only [ao3];rw [show i+(k+1)=i+1+k by omega];exact this
def j4 (one:List Int) (x:bw):bw:=if x.atom≥0 then { x with no:=one.getD x.no.toNat 0,yes:=one.getD x.yes.toNat 0 } else x
theorem OI (g:List bw) {m z:Nat} (h:m≤z):(il g m).getD z 0=(b3 0 g).1.getD z 0:=by
 have e:=Er g m (z-m);rw [show m+(z-m)=z by omega] at e;have d:=(IQ m g 0).1;rw [af8] at d;rw [e,← d,d5,d5,ao6,show m+(z-m)=z by omega]
theorem xD {g:List bw} (av:nR g) {a:Nat} {x:bw} (ab:g[a]? = some x):(b3 0 g).2[a]? = some (j4 (b3 0 g).1 x):=by
 have U:=OE av ab;have d:=(IQ a g 0).2;rw [af8,U] at d;have ad:((b3 0 g).2.drop a)[0]? = some (oF g a x):=by rw [d];rfl
 rw [ao6,Nat.add_zero] at ad;rw [ad];congr 1;unfold oF j4;split
 ·rename_i h
  have:=av.eU a x ab h;rw [OI g ag,OI g ag]
 ·rfl
theorem tV {g:List bw} (av:nR g) {b:Nat} (an:b<g.length):∃ a:Nat,(b3 0 g).1[b]? = some (a:Int)∧b≤a∧a<g.length:=by
 have aE:=(pC g 0).1;have lP:=IF (n:=g.length) g 0 ag (fun k x ab aR=>by have:=av.eU k x ab aR;rw [af8];exact this);have h:=(lP b an).1;obtain ⟨v,au⟩:∃ v,(b3 0 g).1[b]? = some v:=⟨_,f7 ag⟩;rw [d5,au,ae'] at h;exact ⟨v.toNat,by rw [au,show ((v.toNat:Nat):Int)=v by omega],by omega,by omega⟩
theorem BO {g:List bw} (av:nR g):Down (b3 0 g).2:=fun i x ab aR=>by
 obtain ⟨U,ad⟩:=pC g 0;have l5:=(t7.1 ab).1;obtain ⟨y,ax⟩:∃ y,g[i]? = some y:=⟨_,f7 ag⟩;have az:=xD av ax;rw [ab] at az;cases az;unfold j4 at aR ⊢;by_cases h:y.atom≥0
 ·rw [g6 h]
  obtain ⟨d1,d2,d3,d4⟩:=av.eU i y ax h;obtain ⟨a,Y6,ze,adx⟩:=tV av (b:=y.no.toNat) ag;obtain ⟨c,so,vi,ady⟩:=tV av (b:=y.yes.toNat) ag;simp only;rw [d5,Y6,d5,so];simp only [ae'];omega
 ·rw [d9 h] at aR
  exact absurd aR h
theorem tW {N:List bw} (dP:Down N):∀ (k a:Nat),a<N.length→N.length-a≤k→∀ order:List Int,(∀ y∈order,y∈meet N k order a)∧(a:Int)∈meet N k order a
  | 0,a,U,ad,_=>by omega
  | k+1,a,U,ad,order=>by
    obtain ⟨x,ab⟩:∃ x,N[a]? = some x:=⟨_,f7 U⟩;rw [vo ab];cases aF:order.contains (a:Int) with
    | true=>rw [g6 C];exact ⟨fun y h=>h,ah8.1 aF⟩
    | false=>
      rw [d9 ba];refine ⟨fun y ax=>ai' _ ?_,an5 _ ba⟩;split
      · rename_i aR
        obtain ⟨d1,d2,d3,d4⟩:=dP a x ab aR;obtain ⟨u,hu⟩:∃ u:Nat,x.yes=u:=⟨x.yes.toNat,by omega⟩;obtain ⟨z,bE⟩:∃ z:Nat,x.no=z:=⟨x.no.toNat,by omega⟩;rw [hu,bE];exact (tW dP k z ag ag _).1 y ((tW dP k u ag ag order).1 y ax)
      · exact ax
def rD (N:List bw) (order:List Int) (y:Int):Prop:=∀ x,N[y.toNat]? = some x→x.atom≥0→x.no∈order∧x.yes∈order
theorem rD.mono {N:List bw} {o o':List Int} {y:Int} (h:rD N o y) (ar:∀ z∈o,z∈o'):rD N o' y:=fun x ab aR=>⟨ar _ (h x ab aR).1,ar _ (h x ab aR).2⟩
theorem Et {N:List bw} (dP:Down N):∀ (k a:Nat),a<N.length→N.length-a≤k→∀ order:List Int,∀ y∈meet N k order a,y∈order∨rD N (meet N k order a) y
  | 0,a,U,ad,_=>by omega
  | k+1,a,U,ad,order=>by
    obtain ⟨x,ab⟩:∃ x,N[a]? = some x:=⟨_,f7 U⟩;rw [vo ab];cases aF:order.contains (a:Int) with
    | true=>rw [g6 C];exact fun y h => .inl h
    | false=>
      rw [d9 ba];by_cases aR:x.atom≥0
      · rw [g6 aR]
        obtain ⟨d1,d2,d3,d4⟩:=dP a x ab aR;obtain ⟨u,hu⟩:∃ u:Nat,x.yes=u:=⟨x.yes.toNat,by omega⟩;obtain ⟨z,bE⟩:∃ z:Nat,x.no=z:=⟨x.no.toNat,by omega⟩;rw [hu,bE];have s1:=tW dP k u ag ag order;have s2:=tW dP k z ag ag (meet N k order u);have cQ:=Et dP k u ag ag order;have cV:=Et dP k z ag ag (meet N k order u);intro y ax;rcases ae4.1 ax with ax|ax
        · rcases cV y ax with h|h
          · rcases cQ y h with h|h
            · exact .inl h
            · exact .inr (h.mono fun w hw=>ai' _ (s2.1 w hw))
          · exact .inr (h.mono fun w hw=>ai' _ hw)
        · rw [t6.1 ax]
          refine .inr fun kS bP _=>?_
          rw [i9,ab] at bP;cases bP;rw [hu,bE];exact ⟨ai' _ s2.2,ai' _ (s2.1 _ s1.2)⟩
      · rw [d9 aR]
        intro y ax;rcases ae4.1 ax with ax|ax
        · exact .inl ax
        · rw [t6.1 ax]
          refine .inr fun kS bP Y7=>?_
          rw [i9,ab] at bP;cases bP;exact absurd Y7 aR
theorem qm {order:List Int} (az:order.Nodup) {i:Nat} {x:Int} (ab:order[i]? = some x):placeOf order x=(i:Int):=by
 obtain ⟨U,ad⟩:=t7.1 ab;have:order.findIdx? (· == x)=some i:=by
  rw [ah3];refine ⟨U,by rw [ad];simp,fun j aH=>?_⟩;rw [Bool.not_eq_true,beq_eq_false_iff_ne];intro he;have:=(List.getElem_inj az).1 (he.trans ad.symm);omega
 unfold placeOf;rw [this];rfl
def oG (N:List bw) (an jB im:Nat):af := .func 110 [] [.br [.map an] 0,.br [.aB 4 (N.map e9) .bc] 0,.ptr jB 0,.ptr im 0]
def sG (N:List bw) (an jB im:Nat) (num:List (af×af)) (order:List Int) (own:bQ):a8:=
 [(.own jB,.box 163 [oG N an jB im]),(.own im,.box 23 [.aB 1 (order.map bb) own]),(own,.row 3 1 order.length),(.own an,.map num)]
theorem Y8 (N:List bw) (aT:N.length≤1000) (dP:Down N) (an jB im:Nat):∀ (k a:Nat),a<N.length→N.length-a≤k→∀ (num:List (af×af)) (order path:List Int) (own:bQ),ql num order path→ld N.length order→(∀ x∈path,x<a) →
    di d0 (oG N an jB im) [.int .i64 (a:Int)] (sG N an jB im num order own) (fun o K=>∃ vn cS,ql vn (meet N k order a) path∧o = .ret (.cu [])∧K=sG N an jB im vn (meet N k order a) cS):=by
  have n6:bB=1099511627776:=rfl;intro k
  induction k with
  | zero=>intro a U ad;omega
  | succ k aX=>
    intro a aR aA num order path own ot BP IS;have hlen:=BP.len;obtain ⟨x,ab,bP⟩:=b5 (f:=e9) aR;have pk:=vo (k:=k) (order:=order) ab;have ka:=ot.get a;refine di.fk (first:=[]) (cap:=[.br [.map an] 0,.br [.aB 4 (N.map e9) .bc] 0,.ptr jB 0,.ptr im 0]) ?_;refine bF.bl ai Tryz.func110 C C fun s I=>?_
    unfold sG oG at *;refine kB ?_;cases aF:order.contains (a:Int) with
    | true=>
      rw [aF,g6 C] at ka;rw [aF,g6 C] at pk;rw [pk];refine aa.jr ai I C C C C C C C C C C aZ C ka C ?_;refine eg ?_;exact Fin.bt I C aO (aI.all _) ⟨num,own,ot,rfl,rfl⟩
    | false=>
    have aD:path.contains (a:Int)=false:=by
      cases h:path.contains (a:Int) with
      | false=>rfl
      | true=>have:=IS _ (ah8.1 h);omega
    rw [aF,d9 ba,aD,d9 ba] at ka;rw [aF,d9 ba] at pk;obtain ⟨OJ,tj,OK⟩:=ot.enter aF;refine aa.jr ai I C C C C C C C C C C aZ C ka C ?_;refine bD ?_;refine aa.mX ai I C C (.inl C) C C C C C C aZ C tj (fun I=>?_);unfold e9 gL at bP;refine dL ?_;refine ae.yp (σ:=List (af×af)×bQ) (fun _=>[(0,.int .i64 (a:Int)),(1,.br [.map an] 0),(2,.br [.aB 4 (N.map e9) .bc] 0),(3,.ptr jB 0),(4,.ptr im 0)]) (fun z=>sG N an jB im z.1 (if x.atom≥0 then meet N k (meet N k order x.yes) x.no else order) z.2) (fun z=>ql z.1 (if x.atom≥0 then meet N k (meet N k order x.yes) x.no else order) ((a:Int)::path)) ?_ ?_
    · refine ae.cond C (fun de=>?_) (fun de=>?_)
      · have de:x.atom≥0:=by simpa using de
        obtain ⟨d1,d2,d3,d4⟩:=dP a x ab de;obtain ⟨y,ax⟩:∃ y:Nat,x.yes=y:=⟨x.yes.toNat,by omega⟩;obtain ⟨z,bE⟩:∃ z:Nat,x.no=z:=⟨x.no.toNat,by omega⟩;rw [g6 de];simp only [ax,bE] at bP ⊢;have qL:=sF dP k y ag ag order BP
        have i1:=aX y ag ag OJ order ((a:Int)::path) own OK BP (fun p aD=>by
          rcases af1.1 aD with rfl|aD
          · omega
          · have:=IS p aD;omega)
        have i2:=fun Eu r9 h=>aX z ag ag Eu (meet N k order y) ((a:Int)::path) r9 h qL.1 (fun p aD=>by
          rcases af1.1 aD with rfl|aD
          · omega
          · have:=IS p aD;omega)
        refine tm I ?_;intro I;refine aM.gJ rfl rfl rfl rfl rfl rfl rfl i1 I a1 ?_ (fun _ _ h _=>by obtain ⟨_,_,_,h,_⟩:=h;cases h);rintro _ _ ⟨Eu,r9,zf,⟨⟩,rfl⟩ I;simp only [d8,ad'] at I ⊢;refine tm I ?_;intro I;refine aM.gJ rfl rfl rfl rfl rfl rfl rfl (i2 Eu r9 zf) I a1 ?_ (fun _ _ h _=>by obtain ⟨_,_,_,h,_⟩:=h;cases h);rintro _ _ ⟨Ev,uT,uK,⟨⟩,rfl⟩ I;simp only [d8,ad'] at I ⊢;skip;exact lY.mk (Ev,uT) I uK (cz C) (by simp only [sG,oG];exact a1)
      · have de:¬ x.atom≥0:=by simpa using de
        rw [d9 de];refine gr ?_;exact lY.mk (OJ,own) I OK (cz C) (by simp only [sG,oG];exact a1)
    rintro ⟨Eu,r9⟩ zf I;rw [pk];simp only at zf I ⊢;generalize kX:(if x.atom≥0 then meet N k (meet N k order x.yes) x.no else order)=order2 at *;have u4:ld N.length order2∧∀ y∈order2,y∈order∨(a:Int)<y:=by
      rw [← kX];split
      · rename_i de
        obtain ⟨d1,d2,d3,d4⟩:=dP a x ab de;obtain ⟨y,ax⟩:∃ y:Nat,x.yes=y:=⟨x.yes.toNat,by omega⟩;obtain ⟨z,bE⟩:∃ z:Nat,x.no=z:=⟨x.no.toNat,by omega⟩;rw [ax,bE];obtain ⟨sg,b0⟩:=sF dP k y ag ag order BP;obtain ⟨eQ,zd⟩:=sF dP k z ag ag _ sg;refine ⟨eQ,fun u hu=>?_⟩;rcases zd u hu with h|h
        · rcases b0 u h with h|h
          · exact .inl h
          · exact .inr ag
        · exact .inr ag
      · exact ⟨BP,fun y h => .inl h⟩
    have vi:order2.contains (a:Int)=false:=by
      cases h:order2.contains (a:Int) with
      | false=>rfl
      | true=>
        rcases u4.2 _ (ah8.1 h) with h|h
        · rw [ah8.2 h] at aF;cases aF
        · omega
    have eY:=u4.1.len;obtain ⟨Ev,uK,Y9⟩:=zf.leave vi;unfold sG oG at I ⊢;refine cv I ?_;intro I;refine aa.mX ai I C C (.inl C) C C C C C C aZ C (by rw [f0];exact uK) (fun I=>?_);refine cv I ?_;intro I;refine aa.gn ai I C C C C C C C er C C C C C C C C aZ hy ki ag (fun b0 I=>?_);refine cv I ?_;intro I;exact Fin.bt (K:=sG N an jB im Ev (order2++[(a:Int)]) (.own b0)) I C aO (by simp only [sG,oG,ae1,ae2,ah2,f8,i0,af7];exact a1) ⟨Ev,.own b0,Y9,rfl,rfl⟩
def vp (xs:List Int):Nat→List (Nat×Int)
 | 0=>[]
 | m+1=>(m,xs.getD m 0)::vp xs m
def IT (p:Nat×Int):af := .int .i64 (p.1:Int)
def IU (p:Nat×Int):af := .int .i64 p.2
theorem OL (xs:List Int):∀ m,m≤xs.length→(vp xs m).map (·.2)=(xs.take m).reverse
  | 0,_=>by rw [vp,al6];rfl
  | m+1,h=>by
    obtain ⟨x,ab⟩:∃ x,xs[m]? = some x:=⟨_,f7 ag⟩;rw [vp,ae2,OL xs m ag,an2,ab,List.reverse_append,d5,ab];rfl
theorem Y' (xs:List Int) (aE:xs.length<bB):Hd d0 152 [] [.br [.aB 1 (xs.map bb) .bc] 0] [] IT IU (fun _=>True) (vp xs xs.length):=by
 have n6:bB=1099511627776:=rfl;intro l Go fB fL o7 K bf;refine bF.bl ai Tryz.func152 C C fun s I=>?_
 rw [d8] at I ⊢;have jX:((xs.map bb).length:Int)=(xs.length:Int):=by rw [f0]
 have hw:ad5 .i64 ((xs.length:Int)-1)=(xs.length:Int)-1:=ee ag ag;refine gy ?_;refine ae.b9 [0,1] C I (σ:=Nat×a8) (fun q=>[(3,.int .i64 ((q.1:Int)-1))]) (fun q=>q.2) (fun q=>q.1≤xs.length∧Go (vp xs q.1) q.2) (fun q=>q.1) (xs.length,K) ⟨g9 _,bf⟩ (by repeat (first|exact trivial|refine ⟨⟨_,rfl,aO⟩,?_⟩|refine ⟨⟨_,rfl,aU.of_eq (by (rw [jX,hw]))⟩,?_⟩)) (aI.all _) ?_;rintro ⟨jq,iH⟩ ⟨hm,dw⟩ I;simp only at hm dw I ⊢;cases jq with
 | zero=>
  refine bD ?_;exact Fin.bt I C aO (aI.all _) (.inl ⟨rfl,.inl dw⟩)
 | succ m=>
 have tg:(((m+1:Nat):Int)-1)=(m:Int):=by omega
 simp only [tg];obtain ⟨x,ab,bP⟩:=b5 (f:=bb) (show m<xs.length by omega);rw [vp,show xs.getD m 0=x by rw [d5,ab];rfl] at dw;have ax:=o7 _ _ iH dw;unfold IT IU at ax;unfold bb at bP;refine bD ?_;refine aa.gJ C C C C C C ax I (aI.all _) ?_ ?_
 ·rintro x aP (⟨⟨⟩,-,h⟩|⟨⟨⟩,h⟩|⟨_,⟨⟩,_⟩) I
  all_goals rw [d7] at I ⊢
  ·refine bD ?_
   exact bp.mk (m,aP) I ⟨by omega,h⟩ yr (aI.all _) (by show m<m+1;omega)
  ·refine e8 ?_
   exact Fin.bt I C aO (aI.all _) (.inl ⟨rfl,.inr h⟩)
 ·rintro x aP (⟨h,_⟩|⟨h,_⟩|⟨v,⟨⟩,h⟩) I
  ·cases h
  ·cases h
  rw [d7] at I ⊢;exact Fin.fb I aO (aI.all _) (.inr ⟨_,rfl,h⟩)
theorem Za (xs:List Int):aV d0 111 [bg xs] (.func 152 [] [.br [.aB 1 (xs.map bb) .bc] 0]):=by
 have an:=bG;refine aV.bl ai Tryz.func111 C C fun s I=>?_
 unfold bg;refine gT ?_;exact bA I
section
variable {J:al→Prop} {P:Program} {Γ:cy} {N:Nat} {l:List Oper} {Q:b6→Env→al→Prop} {env:Env} {s:al} {m:Nat}
theorem bm.two {i j:Nat} {zg zh:Oper} {IV IW:Nat} {IX IY:af} (cL:J s) (aC:eK l.toArray m (idxs 0 l)=[i,j]) (eR:af2 i j=false)
  (aN:l.toArray[i]? = some zg) (IZ:zg.dst=some IV) (Zb:aa' IV N=true) (xE:guardOf l.toArray (ix env (looks l.toArray zg)) zg=some true) (Zc:a6 P N zg (ix env (looks l.toArray zg)) s (fun x ak=>x=IX∧ak=s) (fun _ _=>False))
  (aH:l.toArray[j]? = some zh) (I0:zh.dst=some IW) (Zd:aa' IW N=true) (Ze:guardOf l.toArray (ix env (looks l.toArray zh)) zh=some true) (Zf:a6 P N zh (ix env (looks l.toArray zh)) s (fun x ak=>x=IY∧ak=s) (fun _ _=>False))
  (th:bm J P Γ N l.toArray Q (bX (m|||2^i)) ((IV,IX)::env) s) (Zg:bm J P Γ N l.toArray Q (bX (m|||2^j)) ((IW,IY)::env) s):bm J P Γ N l.toArray Q (bX m) env s:=by
 have cE:i≠j:=fun e=>by subst e;rw [show af2 i i=true from Nat.beq_refl i] at eR;cases eR
 have fo:∀ k,hi l.toArray (bX m) k→k=i∨k=j:=fun k aA=>by
  have:=Aj aA (l:=idxs 0 l) (by rw [yh,List.mem_range'_1];have:=aA.1;simp at this;omega);rw [aC] at this;simpa using this
 have iZ:hi l.toArray (bX m) i:=by
  have gm:i∈eK l.toArray m (idxs 0 l):=by rw [aC];exact i8 ..
  have:∀ is,i∈eK l.toArray m is→iy l.toArray m i=true:=by
   intro is
   induction is with
   | nil=>intro h;cases h
   | cons j is aX=>
    intro h;simp only [eK] at h;split at h
    ·rename_i an
     rcases af1.1 h with rfl|h
     ·exact an
     ·exact aX h
    ·exact aX h
  exact ti.1 (this _ gm)
 refine bm.split (fun k x ak=>(k=i→x=IX)∧(k=j→x=IY)∧ak=s) (fun _ _ _=>False) ⟨i,iZ.1,iZ.2.1⟩ (fun k o' aA cC=>?_) (fun k o' aA cC x ak bf => .inl (by rw [bf.2.2];exact cL)) (fun k o' c2 aA cC cq x ak bf=>?_) (fun k o' aA cC cq x ak bf=>?_) (fun k o' aA cC x ak iu=>iu.elim)
 ·rcases fo k aA with rfl|rfl
  ·rw [aN] at cC;cases cC
   exact ⟨xE,Zc.mono (fun x ak h=>⟨fun _=>h.1,fun e=>absurd e cE,h.2⟩) (fun _ _ h=>h),fun c2 cq=>by rw [IZ] at cq;cases cq;simpa [Nat.blt_eq] using Zb⟩
  ·rw [aH] at cC;cases cC
   exact ⟨Ze,Zf.mono (fun x ak h=>⟨fun e=>absurd e.symm cE,fun _=>h.1,h.2⟩) (fun _ _ h=>h),fun c2 cq=>by rw [I0] at cq;cases cq;simpa [Nat.blt_eq] using Zd⟩
 ·obtain ⟨U,ad,rfl⟩:=bf
  rcases fo k aA with rfl|rfl
  ·rw [aN] at cC;cases cC
   rw [IZ] at cq;cases cq;rw [o2,U C];exact th
  ·rw [aH] at cC;cases cC
   rw [I0] at cq;cases cq;rw [o2,ad C];exact Zg
 ·rcases fo k aA with rfl|rfl
  ·rw [aN] at cC;cases cC
   rw [IZ] at cq;cases cq
  ·rw [aH] at cC;cases cC
   rw [I0] at cq;cases cq
theorem bm.I1 {L R:a8} (i:Nat) (aQ:bO P Γ) (I:Ok s L) (cL:J (aS s L)) {o:Oper} {d:Nat} {t T:TypeId} {x:Operand} {dX:bN} {b off:Nat} {cs:List af} {v:af} (aC:eK l.toArray m (idxs 0 l)=[i]) (ah:l.toArray[i]? = some o) (ay:o.dst=some d) (aT:aa' d N=true)
  (av:c4 l env o) (bY:o.op = .load t x) (aL:Γ.get? t=some dX) (ab:aK (b2 l env o) x=some (.ptr b off)) (ar:bo L (.own b) (.box T cs) R) (au:hK dX cs off=some v)
  (h:bm J P Γ N l.toArray Q (bX (m|||2^i)) ((d,v)::env) (aS s L)):bm J P Γ N l.toArray Q (bX m) env (aS s L):=
 bm.one aC ah ay aT av (a6.ez aQ I bY aL ab ar au (X:=fun _ _=>False)) (fun x ak ⟨_,ad⟩ => .inl (by rw [ad];exact cL)) (fun x ak ⟨U,ad⟩=>by subst U;subst ad;exact h) (fun _ _ h=>h.elim)
theorem bm.OM (i:Nat) (aQ:bO P Γ) (cL:J s) {o:Oper} {d:Nat} {t dS e0:TypeId} {x y:Operand} {ok:Bool} {it gI aG:bN} {b:Nat} {es:List (af×af)} {k z:af} {r:Option af} (aC:iy l.toArray m i=true) (ah:l.toArray[i]? = some o) (ay:o.dst=some d) (aT:aa' d N=true)
  (av:c4 l env o) (bY:o.op = .lookup t x y ok) (aL:Γ.get? t=some it) (bq:it.bH = .map dS e0) (jk:Γ.get? dS=some gI) (bL:Γ.get? e0=some aG) (ab:aK (b2 l env o) x=some (.map b)) (ax:aK (b2 l env o) y=some k)
  (ar:∀ s,J s→s b=some (.map es)) (a7:j' gI.bH k=true) (nv:iX es k=some r) (bE:hD aG.zero=some z)
  (h:bm J P Γ N l.toArray Q (bX (m|||2^i)) ((d,lS ok z r)::env) s):bm J P Γ N l.toArray Q (bX m) env s:=
 bm.rY cL aC ah ay aT av (fun s hF=>a6.lookup aQ bY aL bq jk bL ab ax (.inl ⟨b,rfl,ar s hF⟩) a7 nv bE) h
end
theorem ON {w:World} {p:bU}:∀ {yss:List (List af)} {us:List Value},bJ w p us (yss.map af.agg)→bJ w p (flat us) yss.flatten
  | [],us,h=>by cases h;exact .nil
  | c::r,us,h=>by
    cases h with
    | cons u _ vZ _ hu aL=>
    cases hu with
    | agg cs _ aF=>
    have:=ON aL;rw [List.flatten_cons,show flat (Value.agg cs::vZ)=cs.toList++flat vZ by simp [flat,Value.cells]];exact bJ.append aF this
section
variable {P:Program} {Γ:cy} {N:Nat} {ops:Array Oper} {Q:b6→Env→al→Prop} {env:Env} {s:al} {l:List Oper} {o:Oper} {d:Nat} {L R:a8}
theorem Zh (aQ:bO P Γ) {w:World} {p:bU} {S:al} (cg:dq w p S) {t bK e ty:TypeId} {it cx aG:bN} {bV sz:Nat} {olds:List Value} {xs:List af} {yss:List (List af)} {dm:bQ} {base:Option Addr} {n cap:Nat} {q0:Value}
  (aL:Γ.get? t=some it) (bq:it.bH = .aB e) (cW:Γ.get? bK=some cx) (dr:∀ k,cx.bH ≠ .int k) (bL:Γ.get? e=some aG) (U:aG.size=sz) (dO:af2 aG.zero.cells.size aG.size=true)
  (aC:bJ w p olds xs) (az:n*sz=xs.length) (s8:(Builtin.firstCells sz n (.slice base n cap)).run P w.drew = .ok olds.toArray w.drew) (ax:Rel w p q0 (.aB bV (yss.map af.agg) dm)) (c6:bV=sz) (hP:∀ c∈yss,c.length=sz)
  (aw:cap<n+yss.length) (an:(n+yss.length)*aG.bytes≤140737488355328) (ed:n+yss.length≤9223372036854775807) :
  ∃ aW ch cs' w',(Builtin.append_ #[t,bK] ty #[.slice base n cap,q0]).run P w = .ok (.slice (some ⟨aW,0,none⟩) (n+yss.length) ch) w'∧S aW=none∧dc w p w' p∧Kept S (S.set aW (.box e cs')) w p w' p∧dq w' p (S.set aW (.box e cs')) ∧
   cs'.length=ch*sz∧n+yss.length≤ch∧cs'.take ((n+yss.length)*sz)=xs++yss.flatten:=by
 obtain ⟨info,d,g1,g2,g3,-⟩:=aQ.parts aL;obtain ⟨mM,c2,dT,dh,dJ,-⟩:=aQ.parts cW;obtain ⟨jO,kv,cF,dj,fe,eI,jP,jl⟩:=aQ.parts bL;have ay:d = .slice e:=by rw [bq] at g3;cases d<;>simp [ev] at g3;rw [g3]
 subst ay;have cq:∀ k,c2 ≠ .int k:=fun k e'=>by subst e';exact dr k dJ.symm
 obtain ⟨us,ie,pO,jQ,ke,s',ta,tb⟩:=qG ax (.inr c6);rw [f0] at jQ ke;subst c6;have tO:bJ w p (flat us) yss.flatten:=ON ie;have mQ:=tO.length;have fz:=growslice_fits (need:=n+yss.length) (old:=cap) (bytes:=aG.bytes) aw an;have cO:=zZ (ty:=ty) w g2 dh cq cF jl (base:=base) (sLen:=n) (sCap:=cap) (m:=yss.length) (olds:=olds) (news:=flat us) (jQ P)
  (by rw [eI,U];exact s8) (by rw [eI,U];exact ke P w.drew (fun _ _ _=>rfl)) aw ag (by rw [jP];exact fz)
 have nx:n+yss.length≤grownCap w (n+yss.length) cap e:=by simp [grownCap,Question.cut]
 have gz:olds.length=n*bV:=by rw [aC.length,az]
 have oT:=ae0 dO;generalize s9:(Builtin.zeroCells aG.zero.cells (grownCap w (n+yss.length) cap e-(n+yss.length))).toList=aZ at cO;have mm:aZ.length=(grownCap w (n+yss.length) cap e-(n+yss.length))*bV:=by
  rw [← s9,NJ,oT,U]
 generalize grownCap w (n+yss.length) cap e=G at cO nx mm;have wI:=x8 cg
 obtain ⟨ar,hle,aA,kZ⟩:=rQ wI (.cells (olds++flat us++aZ).toArray e (0,0)) (.box e (xs++yss.flatten++aZ.map fun _ => .any)) (fun w' iK au fs=>⟨_,iK,by
  refine bJ.append (bJ.append (fs _ _ (show bJ w.drew p olds xs from aC.mono kU)) (fs _ _ (tO.mono kU))) (bJ.Ay aZ),fun o aD=>absurd (cg.lt _ _ aD) (by show ¬ w.heap.size<w.heap.size;omega)⟩)
 rw [show w.drew.heap.size=w.heap.size from rfl] at ar aA kZ;have hm:(n+yss.length)*bV=n*bV+yss.length*bV:=ak5 ..;have kt:=Xj hP;refine ⟨w.heap.size,G,xs++yss.flatten++aZ.map (fun _=>af.any),_,cO,ar,kU.trans hle,(vQ (w:=w) (p:=p)).trans (kU (w:=w) (p:=p)).size aA,kZ,?_,nx,?_⟩
 ·simp only [f8,f0,mm]
  rw [← az,kt,← hm,← ak5];congr 1;omega
 ·rw [ah6 (by rw [f8,kt];omega),ag8 (by rw [f8,kt];omega)]
theorem a6.I2 (aQ:bO P Γ) (I:Ok s L) {t bK e:TypeId} {x y:Operand} {it cx aG:bN} {dU bV sz:Nat} {yss:List (List af)} {dm:bQ}
    (ah:o.op = .call { callee := .builtin .append,args := #[x,y],argTypes := #[t,bK] }) (aL:Γ.get? t=some it) (bq:it.bH = .aB e) (cW:Γ.get? bK=some cx) (dr:∀ k,cx.bH ≠ .int k)
    (bL:Γ.get? e=some aG) (U:aG.size=sz) (dO:af2 aG.zero.cells.size aG.size=true) (ab:aK env x=some (.aB dU [] .clip)) (ax:aK env y=some (.aB bV (yss.map af.agg) dm)) (c6:bV=sz) (hP:∀ c∈yss,c.length=sz) (cE:1≤yss.length) (an:yss.length*aG.bytes≤140737488355328) (ed:yss.length≤9223372036854775807)
    {X:af→al→Prop}:a6 P N o env (aS s L) (fun r ak=>H3 s L e sz yss.length yss.flatten r ak) X:=by
  refine a6.ku ja fun ro B a w p aJ=>?_
  have gd:=aJ.aK ab;have fj:=aJ.aK ax;have eP:=fun val w'=>uP (P:=P) (a:=a) (val:=val) (w:=w) (w':=w') ah
  generalize ew:a.eval x=dQ at gd eP;generalize ff:a.eval y=fY at fj eP;have ts:∃ base,dQ = .slice base 0 0:=by
    cases gd with
    | hV=>exact ⟨_,rfl⟩
    | ir a _ _ h=>exact ⟨_,rfl⟩
    | aB g off n cap _ vs _ _ az aE aF aC ar hm aA cj ah=>
      have U:n=0:=aE;have ad:=cj C;subst U;subst ad;exact ⟨_,rfl⟩
  obtain ⟨base,rfl⟩:=ts
  obtain ⟨aW,ch,cs',w',fr,gx,hv,iY,mn,mo,mY,mZ⟩:=Zh (ty:=o.type) aQ aJ.wf (base:=base) (n:=0) (cap:=0) (olds:=[]) (xs:=[]) aL bq cW dr bL U dO .nil ba (by
    cases base with
    | none=>
      have:=run_firstCells_none (P:=P) w.drew sz 0 0 0
      simpa using this
    | some a=>exact run_firstCells_some w.drew sz 0 a _ _ [] ba ba) fj c6 hP ag (by simpa using an) ag
  rw [af8] at fr mY mZ;exact ⟨_,w',_,p,_,eP _ _ fr,hv,iY,mn,⟨aW,ch,cs',rfl,rfl,⟨gx,I⟩,mo,mY,by simpa using mZ⟩,.hC _⟩
theorem aa.I2 (aQ:bO P Γ) (I:Ok s L) {t bK e:TypeId} {x y:Operand} {it cx aG:bN} {dU bV sz:Nat} {yss:List (List af)} {dm:bQ} (av:guardOf ops env o=some true) (ay:o.dst=some d) (aT:aa' d N=true)
  (ah:o.op = .call { callee := .builtin .append,args := #[x,y],argTypes := #[t,bK] }) (aL:Γ.get? t=some it) (bq:it.bH = .aB e) (cW:Γ.get? bK=some cx) (dr:∀ k,cx.bH ≠ .int k)
  (bL:Γ.get? e=some aG) (U:aG.size=sz) (dO:af2 aG.zero.cells.size aG.size=true) (ab:aK env x=some (.aB dU [] .clip)) (ax:aK env y=some (.aB bV (yss.map af.agg) dm)) (c6:bV=sz) (hP:∀ c∈yss,c.length=sz) (cE:1≤yss.length) (an:yss.length*aG.bytes≤140737488355328) (ed:yss.length≤9223372036854775807)
  (h:∀ aW ch cs',cs'.length=ch*sz→yss.length≤ch→cs'.take (yss.length*sz)=yss.flatten→Ok s ((.own aW,.box e cs')::L)→aa P N ops l Q ((d,eh aW yss.length ch)::env) (aS s ((.own aW,.box e cs')::L))):aa P N ops (o::l) Q env (aS s L):=by
 refine aa.op av ay aT (a6.I2 aQ I ah aL bq cW dr bL U dO ab ax c6 hP cE an ed (X:=fun _ _=>False)) ?_ (fun _ _ h=>h.elim);rintro r ak ⟨aW,ch,cs',rfl,rfl,ad,aj,a',bz⟩;exact h aW ch cs' aj a' bz ad
end
theorem Ew (g:List bw):g.map e9=(g.map gL).map af.agg:=by rw [at1];rfl
theorem Zi (g:List bw) (own:bQ) (U:1≤g.length) (aE:g.length≤1000):bF d0 109 [.aB 4 (g.map e9) own] [] (fun o K=>∃ b cap cs,y2 (some (b,cap,cs)) g∧o = .ret (eh b g.length cap)∧K=[(.own b,.box 69 cs)]):=by
 refine bF.bl ai Tryz.func109 C C fun s I=>?_
 refine dF ?_;refine aa.op C C C (a6.G' ai C C C C (X:=fun _ _=>False)) ?_ (fun _ _ h=>False.elim h);rintro r ak ⟨rfl,⟨rfl,az⟩|rfl⟩
 ·have:g=[]:=List.map_eq_nil_iff.1 az
  rw [this] at U;simp at U
 ·refine bD ?_
  refine aa.I2 ai I (yss:=g.map gL) C C C C C C C er C C C C (by rw [← Ew];rfl) C (pz g) tp (by rw [f0];show _*48≤_;omega) nM (fun dk gq gb cQ cV e3 I=>?_);refine eA ?_;exact Fin.bt I C (aU.of_eq (by rw [f0])) a1 ⟨dk,gq,gb,⟨cQ,by simpa using cV,by simpa using e3⟩,rfl,rfl⟩
theorem Zj (g:List bw):(il g g.length).map bb=ab' g.length (.int .i64 0):=by
 unfold il;rw [aw9,b3,d7,au5];rfl
theorem Zk (g:List bw):lb g g.length=g:=by
 unfold lb;rw [aw9,b3,d7,ae6]
def rE (N:List bw) (an im jB xF ds:Nat) (order:List Int) (num:List (af×af)) (one:List Int) (own:bQ) (bC:Bn) (done:List bw):a8:=[(.own xF,.box 28 [j3 bC done]),(.own im,.box 23 [.aB 1 (order.map bb) .bc]),(.own jB,.box 163 [oG N an jB im]),(own,.row 3 1 order.length),(.own an,.map num),(.own ds,.box 3 (one.map bb))]++jy bC
def hB (N:List bw) (order:List Int) (eU:Int):bw:=let x:=N.getD eU.toNat default
 if x.atom≥0 then { x with no:=(order.length:Int)-1-placeOf order x.no,yes:=(order.length:Int)-1-placeOf order x.yes } else x
def I3 (im an rF:Nat) (order:List Int) (num:List (af×af)) (x:bw) (ak:al):Prop:=ak im=some (.box 23 [.aB 1 (order.map bb) .bc])∧ak an=some (.map num)∧∃ v,ak rF=some (.box 69 [.int .i64 x.atom,v,.int .i64 x.yes,.aB 1 (x.ms.map bb) .bc])
def oH (g:List bw) (oE tX ds cap m:Nat) (cs:List af):a8:=[(.own oE,.box 28 [eh tX g.length cap]),(.own tX,.box 69 cs),(.own ds,.box 3 ((il g m).map bb))]
theorem OO (g:List bw) (av:nR g):bF d0 63 [.aB 4 (g.map e9) .bc] [] (fun o K=>o = .ret (.aB 4 ((small g).map e9) .bc)∧K=[]):=by
  have n6:bB=1099511627776:=rfl;have pn:=av.pos;have po:=av.len;have cj:=Zi g .bc av.pos av.len;refine bF.bl ai Tryz.func63 C C fun s I=>?_
  refine cB ?_;refine aa.tz ai I (g.map e9).length C C C C C C C C C C C C (by rw [f0];show _*8≤_;omega) nM (fun ds I=>?_);refine hx ?_;refine aa.b7 rfl rfl rfl rfl rfl cj I .nil ?_ (fun _ _ ⟨_,_,_,_,h,_⟩ _=>by cases h);rintro _ _ ⟨tX,cap,Zl,Zm,⟨⟩,rfl⟩ I;simp only [f0,ad',d8] at I ⊢
  repeat (first|(refine Ua I ?_;clear I;intro I)|refine aa.dK ai I rfl rfl rfl rfl rfl rfl rfl (fun cA I=>?_))
  obtain ⟨oE,rfl⟩:∃ x,x=cA:=⟨_,rfl⟩;have jD:=Zj g;have jX:((g.map e9).length:Int)=(g.length:Int):=by rw [f0]
  have hw:ad5 .i64 ((g.length:Int)-1)=(g.length:Int)-1:=ee ag ag;refine ae.b9 [0,3,4] C I (σ:=Nat×List af) (fun q=>[(5,.int .i64 ((q.1:Int)-1))]) (fun q=>oH g oE tX ds cap q.1 q.2) (fun q=>q.1≤g.length∧y2 (some (tX,cap,q.2)) (lb g q.1)) (fun q=>q.1) (g.length,Zl) ⟨g9 _,by rw [Zk];exact Zm⟩ (by repeat (first|exact trivial|refine ⟨⟨_,rfl,aO⟩,?_⟩|refine ⟨⟨_,rfl,aU.of_eq (by (rw [jX,hw]))⟩,?_⟩)) (by unfold oH;simp only [jD];exact a1) ?_;rintro ⟨jq,cs⟩ ⟨hm,fu⟩ I;simp only at hm fu I ⊢;cases jq with
  | zero=>
    have Zn:lb g 0=(b3 0 g).2:=by unfold lb;simp
    have Zo:il g 0=(b3 0 g).1:=by unfold il;simp
    obtain ⟨BQ,jb⟩:=pC g 0;have lP:=IF (n:=g.length) g 0 ag (fun k x ab aR=>by have:=av.eU k x ab aR;rw [af8];exact this);have lI:Down (b3 0 g).2:=fun i x ab aR=>by
      have l5:=(t7.1 ab).1;have:=(lP i ag).2.2.2;rw [d5,ab] at this;have:=this aR;simp only [ae'] at this;omega
    obtain ⟨BR,OP⟩:∃ BR,(b3 0 g).1[0]? = some BR:=⟨_,f7 ag⟩;have OQ:(b3 0 g).1.getD 0 0=BR:=by rw [d5,OP];rfl
    have Zp:=(lP 0 ag).1;rw [OQ] at Zp;obtain ⟨a0,rfl⟩:∃ a:Nat,BR=a:=⟨BR.toNat,by omega⟩;have nS:small g=(meet (b3 0 g).2 (g.length+1) [] a0).reverse.map fun eU=>
        let x:=(b3 0 g).2.getD eU.toNat default
        if x.atom≥0 then { x with no:=((meet (b3 0 g).2 (g.length+1) [] a0).length:Int)-1-placeOf (meet (b3 0 g).2 (g.length+1) [] a0) x.no,yes:=((meet (b3 0 g).2 (g.length+1) [] a0).length:Int)-1-placeOf (meet (b3 0 g).2 (g.length+1) [] a0) x.yes } else x:=by
      unfold small;simp only [OQ]
    have jU:∀ x∈(b3 0 g).2,x.ms.length≤16:=fun x ab=>by
      obtain ⟨k,aA⟩:=ag2 ab;obtain ⟨w,p9,I4⟩:=IH g 0 k x aA;rw [I4];exact av.ms w p9
    have sH:ld (b3 0 g).2.length []:=⟨List.nodup_nil,fun _ h=>by cases h⟩;have Zq:=Y8 (b3 0 g).2 ag lI;have kK:=(sF lI (g.length+1) a0 ag ag [] sH).1;have Zr:((b3 0 g).1.map bb)[0*1]? = some (.int .i64 ((a0:Nat):Int)):=by rw [Nat.zero_mul,af3,OP];rfl
    unfold oH at I ⊢;rw [Zo] at I ⊢;rw [Zn] at fu;generalize (b3 0 g).1=one at *;generalize (b3 0 g).2=N at *;obtain ⟨s5,qF,OR⟩:=fu;rw [jb] at qF OR;refine ae.Bm I 0 .here .here C OR (by rw [f0,jb]) (pz _) qF ag (fun I=>?_);simp only [az9,← Ew] at I ⊢;refine ae.mu I 4 oE C .here (fun I=>?_);refine db ?_;refine aa.rZ I C C C C (fun an I=>?_);refine aa.yl ai C C C C C C C (fun _=>rfl) C C (fun _=>rfl) C C C C ?_
    repeat (first|(refine Ub I ?_;clear I;intro I)|refine aa.dK ai I rfl rfl rfl rfl rfl rfl rfl (fun cA I=>?_))
    rename_i im _;obtain ⟨jB,rfl⟩:∃ x,x=cA:=⟨_,rfl⟩;refine ae.ih I 3 1 0 fun I=>?_
    refine ae.ru I [.aB 1 [] .nil] (kb:=im) aZ (.one (aU.nil hk)) (fun I=>?_);have cX:=Zq an jB im (g.length+1) a0 ag ag [] [] [] .nil ql.empty sH (fun _ h=>by cases h);unfold sG oG at cX;refine tm I ?_;intro I;refine aM.fc ai 0 C C C C C C C C C C ag ?_;refine aM.jY ai I C C C C C C aZ C Zr ?_;skip;refine aM.gJ rfl rfl rfl rfl rfl rfl rfl cX I a1 ?_ (fun _ _ h _=>by obtain ⟨_,_,_,h,_⟩:=h;cases h);rintro _ _ ⟨num,own,ot,⟨⟩,rfl⟩ I;simp only [d8,ad'] at I ⊢;generalize meet N (g.length+1) [] a0=order at *;have hlen:=kK.len;refine tn ?_;refine ae.ru I [.aB 1 (order.map bb) .bc] (kb:=im) aZ (.one aU.bc) (fun I=>?_);have Zs:=Za order;unfold bg at Zs
    repeat (first|(refine Uc I ?_;clear I;intro I)|refine aa.dK ai I rfl rfl rfl rfl rfl rfl rfl (fun cA I=>?_)|(refine o4 ?_))
    obtain ⟨xF,rfl⟩:∃ x,x=cA:=⟨_,rfl⟩
    rw [show (fun eU:Int=>let x:=N.getD eU.toNat default
        if x.atom≥0 then ({ x with no:=(order.length:Int)-1-placeOf order x.no,yes:=(order.length:Int)-1-placeOf order x.yes }:bw) else x)=hB N order from rfl] at nS
    have s7:=OL order order.length (g9 _);rw [ae6] at s7;have kP:(vp order order.length).length=order.length:=by
      have:=ae7 List.length s7;rwa [f0,ar8] at this
    have eY:∀ z:Int,lS false (.int .i64 0) (if order.contains z then some (.int .i64 (placeOf order z)) else if ([]:List Int).contains z then some (.int .i64 (-1)) else none) = .int .i64 (placeOf order z):=fun z=>by
      cases aF:order.contains z with
      | true=>rfl
      | false=>rw [Y5 aF];rfl
    refine ae.Mi I C ec ec (Y' order ag) .nil (fun rem K=>∃ bC done,y2 bC done∧done.length+rem.length=order.length∧order.reverse.map (hB N order)=done++rem.map (fun q=>hB N order q.2)∧(∀ q∈rem,0≤q.2∧q.2<N.length)∧K=rE N an im jB xF ds order num one own bC done) (fun _ _=>False) (fun _ _=>False) ⟨none,[],rfl,by rw [kP];simp,by rw [← s7,at1];rfl,(fun q bk=>by
      have:q.2∈order.reverse:=by rw [← s7];exact List.mem_map_of_mem bk
      exact kK.lt _ (List.mem_reverse.1 this)),rfl⟩ ?_ ?_ (fun _ _ h=>h.elim) (fun _ _ h=>h.elim)
    · rintro s₁ ⟨ael,eU⟩ rem K ⟨bC,done,df,wR,vq,qk,rfl⟩ I
      have Zt:=qk _ i8;simp only at Zt;obtain ⟨a,rfl⟩:∃ a:Nat,eU=a:=⟨eU.toNat,by omega⟩;obtain ⟨x,ab,bP⟩:=b5 (f:=e9) (l:=N) (show a<N.length by omega);have zi:hB N order a=if x.atom≥0 then { x with no:=(order.length:Int)-1-placeOf order x.no,yes:=(order.length:Int)-1-placeOf order x.yes } else x:=by
        unfold hB;simp only [i9,d5,ab,ae']
      rw [ae2,i0] at *;have cj:=A2 x.ms .bc (by have:=jU x (d6 ab);omega);have AL:=OH order x.no;have adz:=OH order x.yes;unfold e9 gL bg at bP;unfold IT IU;unfold rE oG at I ⊢;simp only [ad',d8] at I ⊢;have lp:=eY x.no;have I5:=eY x.yes;have OS:=ot.get x.no;have OT:=ot.get x.yes;generalize (if order.contains x.no then some (af.int .i64 (placeOf order x.no)) else if ([]:List Int).contains x.no then some (af.int .i64 (-1)) else none)=aef at lp OS;generalize (if order.contains x.yes then some (af.int .i64 (placeOf order x.yes)) else if ([]:List Int).contains x.yes then some (af.int .i64 (-1)) else none)=aev at I5 OT;by_cases de:x.atom≥0
      · rw [g6 de] at zi
        have cd:ad5 .i64 (ad5 .i64 ((order.length:Int)-1)-placeOf order x.no)=(order.length:Int)-1-placeOf order x.no:=by
          rw [ee (n:=(order.length:Int)-1) ag ag,ee ag ag]
        have b1:ad5 .i64 (ad5 .i64 ((order.length:Int)-1)-placeOf order x.yes)=(order.length:Int)-1-placeOf order x.yes:=by
          rw [ee (n:=(order.length:Int)-1) ag ag,ee ag ag]
        repeat (first|(refine Lv I ?_;clear I;intro I)|refine aa.dK ai I rfl rfl rfl rfl rfl rfl rfl (fun cA I=>?_)|(refine o4 ?_))
        refine ae.cond C (fun _=>?_) (fun h=>absurd de fV);skip;obtain ⟨rF,rfl⟩:∃ x,x=cA:=⟨_,rfl⟩;have rG:=(⟨bo.get aZ I,bo.get aZ I,.int .i64 x.no,bo.get aZ I⟩:I3 im an rF order num x _);refine ae.qS (I3 im an rF order num x) ai mixed C (bm.run rG C ?_);refine bm.oa 0 ai rG C C C C C C C C (fun _ h=>h.1) bZ ?_;refine bm.oa 8 ai rG C C C C C C C C (fun _ h=>h.1) bZ ?_;refine bm.Ux 13 ai rG rfl rfl rfl rfl rfl rfl rfl rfl (fun _ h=>by obtain ⟨_,_,v,h⟩:=h;exact ⟨_,_,h,rfl⟩) ?_;refine bm.run rG C ?_;refine bm.OM 14 ai rG C C C C C C C C C C C C (fun _ h=>h.2.1) C OT C ?_;rw [I5];refine bm.run rG C ?_;refine bm.I1 5 ai I rG C C C C C C C C aZ bZ ?_;refine bm.run rG C ?_;refine bm.OM 6 ai rG C C C C C C C C C C C C (fun _ h=>h.2.1) C OS C ?_;rw [lp];refine bm.run rG C ?_;refine bm.cM 17 ai I C C C C C C C C C C C aZ C (fun I => .inl ⟨bo.get aZ I,bo.get aZ I,_,bo.get aZ I⟩) (fun I=>?_);refine bm.run (⟨bo.get aZ I,bo.get aZ I,_,bo.get aZ I⟩:I3 im an rF order num x _) C ?_;refine bm.cM 19 ai I C C C C C C C C C C C aZ C (fun _ => .inr C) (fun I=>?_);refine bd.done C ?_;rcases bC with _|⟨g2,gq,gb⟩
        · have bu:done=[]:=df
          subst bu;unfold j3 jy at I ⊢;refine cv I ?_;intro I;refine aa.sv ai I C C C C C C C er C C C C C C C ec (fun dk gq gb cQ cV e3 I=>?_);refine cv I ?_;intro I;exact At.mk (rE N an im jB xF ds order num one own (some (dk,gq,gb)) ([]++[hB N order a])) I (by simp only [rE,jy,j3,oG,ad',d8,f8,i0,af7];exact a1) ⟨trivial,some (dk,gq,gb),[]++[hB N order a],⟨cQ,u6,by rw [y3,zi];refine e3.trans ?_;rw [← cd,← b1,f0];rfl⟩,by simp at wR ⊢;omega,by rw [vq];simp,fun q bk=>qk q (i6 _ bk),rfl⟩
        · obtain ⟨fr,gx,hv⟩:=df
          unfold j3 jy at I ⊢;refine cv I ?_;intro I;refine aa.sw ai I C C C C C C C er C C C C aZ fr gx C C C C (by show (done.length+1)*48≤_;omega) ag (fun dk gq gb cQ cV e3 I=>?_);refine cv I ?_;intro I;exact At.mk (rE N an im jB xF ds order num one own (some (dk,gq,gb)) (done++[hB N order a])) I (by simp only [rE,jy,j3,oG,ad',d8,f8,i0,af7];exact a1) ⟨trivial,some (dk,gq,gb),done++[hB N order a],⟨cQ,u6,by rw [y3,zi,f8,i0,af7,← hv];refine e3.trans ?_;rw [← cd,← b1,f0];rfl⟩,by simp at wR ⊢;omega,by rw [vq];simp,fun q bk=>qk q (i6 _ bk),rfl⟩
      · rw [d9 de] at zi
        repeat (first|(refine Lv I ?_;clear I;intro I)|refine aa.dK ai I rfl rfl rfl rfl rfl rfl rfl (fun cA I=>?_)|(refine o4 ?_))
        refine ae.cond C (fun h=>absurd fV de) (fun _=>?_);refine cv I ?_;intro I;rcases bC with _|⟨g2,gq,gb⟩
        · have bu:done=[]:=df
          subst bu;unfold j3 jy at I ⊢;skip;refine aa.sv ai I C C C C C C C er C C C C C C C ec (fun dk gq gb cQ cV e3 I=>?_);refine cv I ?_;intro I;exact At.mk (rE N an im jB xF ds order num one own (some (dk,gq,gb)) ([]++[hB N order a])) I (by simp only [rE,jy,j3,oG,ad',d8,f8,i0,af7];exact a1) ⟨trivial,some (dk,gq,gb),[]++[hB N order a],⟨cQ,u6,by rw [y3,zi];refine e3.trans ?_;rfl⟩,by simp at wR ⊢;omega,by rw [vq];simp,fun q bk=>qk q (i6 _ bk),rfl⟩
        · obtain ⟨fr,gx,hv⟩:=df
          unfold j3 jy at I ⊢;skip;refine aa.sw ai I C C C C C C C er C C C C aZ fr gx C C C C (by show (done.length+1)*48≤_;omega) ag (fun dk gq gb cQ cV e3 I=>?_);refine cv I ?_;intro I;exact At.mk (rE N an im jB xF ds order num one own (some (dk,gq,gb)) (done++[hB N order a])) I (by simp only [rE,jy,j3,oG,ad',d8,f8,i0,af7];exact a1) ⟨trivial,some (dk,gq,gb),done++[hB N order a],⟨cQ,u6,by rw [y3,zi,f8,i0,af7,← hv];refine e3.trans ?_;rfl⟩,by simp at wR ⊢;omega,by rw [vq];simp,fun q bk=>qk q (i6 _ bk),rfl⟩
    · rintro K ⟨bC,done,df,wR,vq,-,rfl⟩ I
      rw [ah2,d7] at vq;rw [← vq,← nS] at df;refine tn ?_;rw [← vq,← nS] at I ⊢;unfold rE at I ⊢;rcases bC with _|⟨g2,gq,gb⟩
      · have bu:small g=[]:=df
        rw [bu];unfold j3;refine cv I ?_;intro I;exact Fin.bt I C aU.empty .nil ⟨rfl,rfl⟩
      · obtain ⟨fr,gx,hv⟩:=df
        have xn:(small g).length≤1000:=by rw [nS,f0,ar8];omega
        unfold j3 jy at I ⊢;refine ae.Bm I 0 .here aZ C hv (by rw [f0]) (pz _) gx ag (fun I=>?_);simp only [az9,← Ew] at I ⊢;refine cv I ?_;intro I;exact Fin.bt I C aO .nil ⟨rfl,rfl⟩
  | succ m=>
  have aw:m<g.length:=hm;have tg:(((m+1:Nat):Int)-1)=(m:Int):=by omega
  obtain ⟨x,ab,-⟩:=b5 (f:=e9) aw;have aJ:=OE av ab;have I6:(lb g (m+1))[m]? = some x:=by rw [YY g ag hm,ab]
  have jn:=fun (k:Nat) (v:af) (aA:(gL x)[k]? = some v)=>NR (pz _) fu.2.2 (by rw [af3,I6];rfl) aA
  unfold oH at I ⊢;simp only [tg] at I ⊢;refine gK I ?_;intro I;refine aa.fc ai m C C C C C C C C C C ag ?_;refine hx ?_;refine aa.jY ai I C C C C C C aZ C (jn 0 _ C) ?_;refine fK ?_;refine ae.yp (σ:=List af) (fun _=>[(0,.aB 4 (g.map e9) .bc),(3,eh ds g.length g.length),(4,.ptr oE 0),(5,.int .i64 (m:Int)),(6,.ptr tX (m*4))]) (fun cs'=>oH g oE tX ds cap (m+1) cs') (fun cs'=>y2 (some (tX,cap,cs')) ((lb g (m+1)).set m (oF g m x))) ?_ ?_
  · refine ae.cond C (fun aR=>?_) (fun aR=>?_)
    · have aR:x.atom≥0:=by simpa using aR
      obtain ⟨CB,zN,aey,aek⟩:=av.eU m x ab aR
      have iv:=fun (z:Int) (U:(m:Int)<z) (ad:z<g.length)=>(show ((il g (m+1)).map bb)[z.toNat*1]? = some (.int .i64 ((il g (m+1)).getD z.toNat 0)) from by
        rw [ai8,af3,d5,f7 (by rw [Ep g hm];omega)];rfl)
      have r8:=y1 (k:=1) (v := .int .i64 ((il g (m+1)).getD x.no.toNat 0)) (pz _) fu.2.2 (by rw [af3,I6];rfl) ag
      have o8:=y1 (k:=2) (v := .int .i64 ((il g (m+1)).getD x.yes.toNat 0)) (fun c aF=>by
        rcases al0 aF with aF|rfl
        · exact pz _ c aF
        · rfl) r8.2 (am2 (by rw [f0,IG g hm];omega)) ag
      have Ex:oF g m x={ x with no:=(il g (m+1)).getD x.no.toNat 0,yes:=(il g (m+1)).getD x.yes.toNat 0 }:=by unfold oF;rw [g6 aR]
      have n3:=IG g hm;have fz:m*4+3≤cs.length:=by rw [fu.1];have:=fu.2.1;omega
      have OU:Nat.ble (m*4+1+[af.int .i64 ((il g (m+1)).getD x.no.toNat 0)].length) cs.length=true:=by rw [Nat.ble_eq];show m*4+1+1≤_;omega
      have OV:Nat.ble (m*4+2+[af.int .i64 ((il g (m+1)).getD x.yes.toNat 0)].length) (eS (m*4+1) [af.int .i64 ((il g (m+1)).getD x.no.toNat 0)] cs).length=true:=by rw [Nat.ble_eq,r8.1];show m*4+2+1≤_;omega
      skip;refine ae.qS (dI [(ds,_)]) ai mixed C (bm.run (dI.one (bo.get aZ I)) C ?_);refine bm.two (i:=6) (j:=13) (dI.one (bo.get aZ I)) C C C C C C (a6.ez ai I C C C aZ (p1 C (jn 1 _ C))) C C C C (a6.ez ai I C C C aZ (p1 C (jn 2 _ C))) ?_ ?_
      · refine bm.fc 7 ai (dI.one (bo.get aZ I)) (j:=x.no.toNat) C C C C C C C C C C C ag ag ?_
        refine bm.oa 8 ai (dI.one (bo.get aZ I)) C C C C C C C C (fun _ h=>dI.fst h) (p1 C (iv x.no ag ag)) ?_;refine bm.I1 13 ai I (dI.one (bo.get aZ I)) C C C C C C C C aZ (p1 C (jn 2 _ C)) ?_;refine bm.fc 14 ai (dI.one (bo.get aZ I)) (j:=x.yes.toNat) C C C C C C C C C C C ag ag ?_;refine bm.oa 15 ai (dI.one (bo.get aZ I)) C C C C C C C C (fun _ h=>dI.fst h) (p1 C (iv x.yes ag ag)) ?_;refine bm.run (dI.one (bo.get aZ I)) C ?_;refine bm.cM 18 ai I C C C C C C C C C C C aZ OU (fun I => .inl (dI.one (bo.get aZ I))) (fun I=>?_);refine bm.run (dI.one (bo.get aZ I)) C ?_;refine bm.cM 21 ai I C C C C C C C C C C C aZ OV (fun _ => .inr C) (fun I=>?_);refine bd.done C ?_;skip
        exact lY.mk _ I ⟨o8.1.trans (r8.1.trans fu.1),by rw [ag3];exact fu.2.1,by
          rw [ag3]
          refine o8.2.trans ?_
          rw [aw8,ap1,Ex]
          rfl⟩ (cz C) (by simp only [oH];exact a1)
      · refine bm.fc 14 ai (dI.one (bo.get aZ I)) (j:=x.yes.toNat) C C C C C C C C C C C ag ag ?_
        refine bm.oa 15 ai (dI.one (bo.get aZ I)) C C C C C C C C (fun _ h=>dI.fst h) (p1 C (iv x.yes ag ag)) ?_;refine bm.I1 6 ai I (dI.one (bo.get aZ I)) C C C C C C C C aZ (p1 C (jn 1 _ C)) ?_;refine bm.fc 7 ai (dI.one (bo.get aZ I)) (j:=x.no.toNat) C C C C C C C C C C C ag ag ?_;refine bm.oa 8 ai (dI.one (bo.get aZ I)) C C C C C C C C (fun _ h=>dI.fst h) (p1 C (iv x.no ag ag)) ?_;refine bm.run (dI.one (bo.get aZ I)) C ?_;refine bm.cM 18 ai I C C C C C C C C C C C aZ OU (fun I => .inl (dI.one (bo.get aZ I))) (fun I=>?_);refine bm.run (dI.one (bo.get aZ I)) C ?_;refine bm.cM 21 ai I C C C C C C C C C C C aZ OV (fun _ => .inr C) (fun I=>?_);refine bd.done C ?_;skip
        exact lY.mk _ I ⟨o8.1.trans (r8.1.trans fu.1),by rw [ag3];exact fu.2.1,by
          rw [ag3]
          refine o8.2.trans ?_
          rw [aw8,ap1,Ex]
          rfl⟩ (cz C) (by simp only [oH];exact a1)
    · have aR:¬ x.atom≥0:=by simpa using aR
      have Ex:oF g m x=x:=by unfold oF;rw [d9 aR]
      refine gr ?_;exact lY.mk cs I (by rw [Ex,gk I6];exact fu) (cz C) (by simp only [oH];exact a1)
  intro cs' BS I;generalize A7:oF g m x=y at BS aJ;have n3:=IG g hm;have o8:(b3 (m+1) (g.drop (m+1))).2.length=g.length-(m+1):=by rw [(pC _ _).2,ai5]
  have Zu:∀ j,((lb g (m+1)).set m y)[m+1+j]? = (b3 (m+1) (g.drop (m+1))).2[j]? := fun j=>by
    rw [ap2 ag,YX g hm]
  have Zv:((lb g (m+1)).set m y)[m]? = some y:=am2 ag;have Ey:=fun (k:Nat) (v:af) (aA:(gL y)[k]? = some v)=>NR (pz _) BS.2.2 (by rw [af3,Zv];rfl) aA
  have OW:(lb g (m+1)).set m y=lb g m:=Y0 aw aJ C;have Zw:(g.length:Int)-1=((m+(g.length-1-m):Nat):Int):=by omega
  unfold oH at I ⊢;refine gy ?_;refine ae.b9 [0,3,4,5,6] C I (σ:=Nat) (fun c=>[(7,.int .i64 ((m+c:Nat):Int))]) (fun _=>oH g oE tX ds cap (m+1) cs') (fun c=>m+c<g.length∧od (sE g m y) 0 (b3 (m+1) (g.drop (m+1))).2=od (sE g m y) 0 ((b3 (m+1) (g.drop (m+1))).2.take c)) (fun c=>c) (g.length-1-m) ⟨by omega,by rw [ag8 ag]⟩ (by repeat (first|exact trivial|refine ⟨⟨_,rfl,aO⟩,?_⟩|refine ⟨⟨_,rfl,aU.of_eq (by (rw [jX,hw,Zw]))⟩,?_⟩)) (by simp only [oH];exact a1) ?_;rintro c ⟨aF,aq⟩ I;simp only [oH] at aF aq I ⊢;cases c with
  | zero=>
    rw [aq,al6,od] at aJ;refine b8 ?_;refine ae.cond C (fun h=>by simp at h) (fun _=>?_);refine bD ?_;refine aa.fc ai m C C C C C C C C C C ag ?_;refine aa.jv ai I _ C C C C C C C C C aZ (by rw [f0,Ep g hm];show m*1+1≤_;omega) C (fun I=>?_);have y7:eS (m*1) [.int .i64 (m:Int)] ((il g (m+1)).map bb)=(il g m).map bb:=by
      rw [pb,ai8,← OF aJ C,ap1];rfl
    refine gf ?_;exact bp.mk (m,cs') I ⟨by omega,by rw [← OW];exact BS⟩ yr (by simp only [oH,← y7];exact a1) (by show m<m+1;omega)
  | succ c=>
    have cj:c<(b3 (m+1) (g.drop (m+1))).2.length:=by omega
    obtain ⟨z,bE⟩:∃ z,(b3 (m+1) (g.drop (m+1))).2[c]? = some z:=⟨_,f7 cj⟩;have OX:=Zu c;rw [bE] at OX;have iv:((il g (m+1)).map bb)[(m+1+c)*1]? = some (.int .i64 ((b3 (m+1) (g.drop (m+1))).1.getD c 0)):=by
      rw [← Er,ai8,af3,d5,f7 (by rw [Ep g hm];omega)];rfl
    have hl:(b3 (m+1) (g.drop (m+1))).2.take (c+1)=(b3 (m+1) (g.drop (m+1))).2.take c++[z]:=by rw [an2,bE];rfl
    rw [hl,OD,af8,ae8,am6 ag] at aq;have pB:sE g m y c z=((b3 (m+1) (g.drop (m+1))).1.getD c 0==((m+1+c:Nat):Int)&&z==y):=rfl;obtain ⟨dn,p9,I4⟩:=IH _ _ _ _ bE;have mm:=av.ms dn (List.mem_of_mem_drop p9);have hP:=av.ms x (d6 ab);have z':=Y1 g m x;rw [A7] at z';have heq:=uS y.ms z.ms (by rw [z'];omega) (by rw [I4];omega);have Yp:(((m+(c+1):Nat):Int)-1)=((m+c:Nat):Int):=by omega
    have sC:((m+1+c:Nat):Int)=((m+(c+1):Nat):Int):=by omega
    refine b8 ?_;refine ae.cond C (fun _=>?_) (fun h=>by simp at h;omega);refine cv I ?_;intro I;refine aa.fc ai (m+1+c) C C C C C C C C C ag ag ?_;refine aa.ez ai I C C C C C C aZ (NN C (pz _) BS.2.2 (by rw [af3,OX];rfl)) ?_;refine dY ?_;refine aM.fc ai (m+1+c) C C C C C C C C C ag ag ?_;refine aM.jY ai I C C C C C C aZ C iv ?_;refine jH ?_;by_cases cQ:(b3 (m+1) (g.drop (m+1))).1.getD c 0=((m+(c+1):Nat):Int);rotate_left
    · refine aM.split 74 C (fun h=>absurd fV cQ) (fun _=>?_)
      have mr:sE g m y c z=false:=by rw [pB,sC,show ((b3 (m+1) (g.drop (m+1))).1.getD c 0==((m+(c+1):Nat):Int))=false from beq_eq_false_iff_ne.2 cQ,f6]
      rw [mr,d9 ba] at aq;refine kh ?_;exact bp.mk c I ⟨by omega,aq⟩ (by repeat (first|exact trivial|refine ⟨⟨_,rfl,aO⟩,?_⟩|refine ⟨⟨_,rfl,aU.of_eq BA⟩,?_⟩)) a1 (by show c<c+1;omega)
    refine aM.split 74 C (fun _=>?_) (fun h=>absurd cQ fV);rw [sC,show ((b3 (m+1) (g.drop (m+1))).1.getD c 0==((m+(c+1):Nat):Int))=true from beq_iff_eq.2 cQ,f5,YZ] at pB;refine jH ?_;refine aM.jY ai I C C C C C C aZ C (Ey 0 _ C) ?_;refine jH ?_;by_cases cV:y.atom=z.atom;rotate_left
    · refine aM.split 83 C (fun h=>absurd fV cV) (fun _=>?_)
      have mr:sE g m y c z=false:=by rw [pB,show decide (z.atom=y.atom)=false from H1 (fun e=>cV e.symm)];simp
      rw [mr,d9 ba] at aq;refine kh ?_;exact bp.mk c I ⟨by omega,aq⟩ (by repeat (first|exact trivial|refine ⟨⟨_,rfl,aO⟩,?_⟩|refine ⟨⟨_,rfl,aU.of_eq BA⟩,?_⟩)) a1 (by show c<c+1;omega)
    refine aM.split 83 C (fun _=>?_) (fun h=>absurd cV fV);rw [show decide (z.atom=y.atom)=true from g7 cV.symm,f5] at pB;refine jH ?_;refine aM.jY ai I C C C C C C aZ C (Ey 1 _ C) ?_;refine jH ?_;by_cases e3:y.no=z.no;rotate_left
    · refine aM.split 92 C (fun h=>absurd fV e3) (fun _=>?_)
      have mr:sE g m y c z=false:=by rw [pB,show decide (z.no=y.no)=false from H1 (fun e=>e3 e.symm)];simp
      rw [mr,d9 ba] at aq;refine kh ?_;exact bp.mk c I ⟨by omega,aq⟩ (by repeat (first|exact trivial|refine ⟨⟨_,rfl,aO⟩,?_⟩|refine ⟨⟨_,rfl,aU.of_eq BA⟩,?_⟩)) a1 (by show c<c+1;omega)
    refine aM.split 92 C (fun _=>?_) (fun h=>absurd e3 fV);rw [show decide (z.no=y.no)=true from g7 e3.symm,f5] at pB;refine jH ?_;refine aM.jY ai I C C C C C C aZ C (Ey 2 _ C) ?_;refine jH ?_;by_cases pR:y.yes=z.yes;rotate_left
    · refine aM.split 101 C (fun h=>absurd fV pR) (fun _=>?_)
      have mr:sE g m y c z=false:=by rw [pB,show decide (z.yes=y.yes)=false from H1 (fun e=>pR e.symm)];simp
      rw [mr,d9 ba] at aq;refine kh ?_;exact bp.mk c I ⟨by omega,aq⟩ (by repeat (first|exact trivial|refine ⟨⟨_,rfl,aO⟩,?_⟩|refine ⟨⟨_,rfl,aU.of_eq BA⟩,?_⟩)) a1 (by show c<c+1;omega)
    refine aM.split 101 C (fun _=>?_) (fun h=>absurd pR fV);rw [show decide (z.yes=y.yes)=true from g7 pR.symm,f5] at pB;refine jH ?_;refine aM.jY ai I C C C C C C aZ C (Ey 3 _ C) ?_;have OY:(z.ms==y.ms)=(y.ms==z.ms):=by rw [af4,am7,am7];exact ⟨fun h=>h.symm,fun h=>h.symm⟩
    cases sh:y.ms==z.ms with
    | false=>
      have mr:sE g m y c z=false:=by rw [pB,OY,sh]
      rw [sh] at heq;rw [mr,d9 ba] at aq;refine cB ?_;exact bp.mk c I ⟨by omega,aq⟩ (by repeat (first|exact trivial|refine ⟨⟨_,rfl,aO⟩,?_⟩|refine ⟨⟨_,rfl,aU.of_eq BA⟩,?_⟩)) a1 (by show c<c+1;omega)
    | true=>
      have mr:sE g m y c z=true:=by rw [pB,OY,sh]
      rw [mr,g6 C] at aq;rw [aq] at aJ;simp only [sC] at aJ;rw [sh] at heq;refine db ?_;refine aa.fc ai m C C C C C C C C C C ag ?_;refine aa.jv ai I _ C C C C C C C C C aZ (by rw [f0,Ep g hm];show m*1+1≤_;omega) C (fun I=>?_);have y7:eS (m*1) [.int .i64 ((m+(c+1):Nat):Int)] ((il g (m+1)).map bb)=(il g m).map bb:=by
        rw [pb,ai8,← OF aJ C,ap1];rfl
      refine bD ?_;exact bp.mk (m,cs') I ⟨by omega,by rw [← OW];exact BS⟩ yr (by simp only [oH,← y7];exact a1) (by show m<m+1;omega)
theorem Zx (x y:bw) (ab:x.ms.length<bB) (ax:y.ms.length<bB):aV d0 66 [e9 x,e9 y] (.bool (x==y)):=by
 have an:=bG;refine aV.bl ai Tryz.func66 C C fun s I=>?_
 have U:=yx x.ms y.ms ab ax;have he:(x==y)=(decide (x.atom=y.atom)&&(decide (x.no=y.no)&&(decide (x.yes=y.yes)&&x.ms==y.ms))):=by
  obtain ⟨a,b,c,d⟩:=x;obtain ⟨c8,aW,tx,c2⟩:=y;rw [af4];simp
 unfold e9 gL bg at *
 repeat' (first|(with_reducible first|apply ae.seq|apply b4|apply ae.ret)|refine c5 C ?_|refine ae.cJ ?_|refine aa.nil ?_|refine cD C ?_|refine aa.skip C C C ?_|refine aa.eb C C C C C cw ?_|(fail_if_success refine aa.same true C ?_);(fail_if_success refine aa.same false C ?_);refine aa.hG C C (fun h=>?_) (fun h=>?_))
 all_goals (refine Fin.cG I C (aU.of_eq (ae7 af.bool ?_));rw [he];clear I U he;grind)
theorem OZ (a b:List bw) (aR:a.length<bB) (dR:b.length<bB) (Zy:∀ x∈a,x.ms.length<bB) (wO:∀ x∈b,x.ms.length<bB):aV d0 15 [gW a,gW b] (.bool (a==b)):=by
 have an:=bG;refine aV.bl ai Tryz.func15 C C fun s I=>?_
 unfold gW;refine b8 ?_;refine ae.cond C (fun cE=>?_) (fun heq=>?_)
 ·have cE:a.length≠b.length:=by simp at cE;omega
  have:(a==b)=false:=by rw [beq_eq_false_iff_ne];rintro rfl;exact cE C
  rw [this];refine gT ?_;exact bA I
 have heq:a.length=b.length:=by simp at heq;omega
 refine jG ?_;refine ae.b9 [0,1] C I (σ:=Nat) (fun j=>[(5,.int .i64 (j:Int))]) (fun _=>[]) (fun j=>j≤a.length∧(a==b)=(a.drop j==b.drop j)) (fun j=>a.length-j) 0 ⟨g8 _,by simp⟩ (cz C) .nil ?_;rintro j ⟨aH,aq⟩ I
 try simp only at aH aq I ⊢
 refine b8 ?_;refine ae.cond C (fun aw=>?_) (fun aY=>?_);rotate_left
 ·have aY:j=a.length:=by simp at aY;omega
  rw [eG ag,eG (l:=b) ag] at aq;rw [aq];refine ef ?_;exact bA I
 have aw:j<a.length:=by simpa using aw
 obtain ⟨x,ab,bP⟩:=b5 (f:=e9) aw;obtain ⟨y,ax,c7⟩:=b5 (f:=e9) (show j<b.length by omega);have ar:=Zx x y (Zy x (d6 ab)) (wO y (d6 ax));rw [drop_cons ab,drop_cons ax,List.cons_beq_cons] at aq;unfold e9 gL bg at bP c7 ar;cases aF:x==y with
 | false=>
  rw [aF] at ar;rw [aq,aF,f6];refine cB ?_;exact bA I
 | true=>
  rw [aF] at ar;rw [aF,f5] at aq;refine cB ?_;exact bp.mk (j+1) I ⟨aw,aq⟩ ck .nil Dp
section
variable {P:Program} {Γ:cy} {N:Nat} {l:List Oper} {i:Nat} {rest:List Oper} {Q:b6→Env→al→Prop} {env:Env} {s:al} {o:Oper} {d:Nat}
theorem aM.r0 {J:al→Prop} (aQ:bO P Γ) {t bK e:TypeId} {x y:Operand} {it cx aG:bN} {dU bV:Nat} {xs ys:List af} {own dm:bQ} (av:c4 l env o) (ay:o.dst=some d) (aT:aa' d N=true)
  (ah:o.op = .call { callee := .builtin .append,args := #[x,y],argTypes := #[t,bK] }) (aL:Γ.get? t=some it) (bq:it.bH = .aB e) (cW:Γ.get? bK=some cx) (dr:∀ k,cx.bH ≠ .int k)
  (bL:Γ.get? e=some aG) (ab:aK (b2 l env o) x=some (.aB dU xs own)) (ax:aK (b2 l env o) y=some (.aB bV ys dm)) (hX:xs=[]∨dU=aG.size) (c6:ys=[]∨bV=aG.size)
  (dO:af2 aG.zero.cells.size aG.size=true) (dH:∀ y∈ys,kd aG.size y=true) (an:(xs.length+ys.length)*aG.bytes≤140737488355328) (ed:xs.length+ys.length≤9223372036854775807)
  (pY:own = .nil∨own = .clip) (h:aM J P Γ N l (i+1) rest Q ((d,.aB aG.size (xs++ys) .bc)::env) s):aM J P Γ N l i (o::rest) Q env s:=
 aM.calm av ay aT (fun _ _=>a6.r0 aQ ah aL bq cW dr bL ab ax hX c6 dO dH an ed pY) h
end
section
variable {P:Program} {Γ:cy} {N:Nat} {env:Env} {s:al} {Q:b6→Env→al→Prop} {L R:a8}
theorem dx.I7 {B:fO} {ro:Option Nat} {a:Act} {w:World} {p:bU} (h:dx N B ro env s a w p) {t b n cap sz:Nat} {T:TypeId} {cs:List af} {xss:List (List af)} (aL:env.get? t=some (eh b n cap)) (ar:s b=some (.box T cs)) (ab:cs.take (n*sz)=xss.flatten) (fg:xss.length=n) (b':∀ c∈xss,c.length=sz) (az:n≤cap) (hm:n≤9223372036854775807):∃ bj,dx N B ro ((t,.aB sz (xss.map af.agg) .bc)::env) (s.del b) a w bj∧dc w p w bj∧Kept s (s.del b) w p w bj:=by
 have Gg:dx N B ro ((a.tmps.size,.any)::[]) s a w p:=h.restrict _ (fun t v au=>by
  simp only [Env.get?] at au
  split at au
  ·cases au;exact .any _
  ·cases au)
 obtain ⟨vs,U,ad,aj⟩:=h.wf.obj _ _ ar;have aw:b<w.heap.size:=(Array.getElem?_eq_some_iff.1 U).1;have hle:dc w p w (p.ea b True):=⟨rfl,rfl,rfl,g9 _,fun _ _ h => .inl h,fun _ _ _=>rfl,fun _ _ h=>h⟩
 have aA:Kept s (s.del b) w p w (p.ea b True):=⟨fun _ _ _=>rfl,fun aW an az=>by
  by_cases e:aW=b
  ·subst e;exact al.nw _ _
  ·rw [al.mO _ e];exact az,fun aW o an az aD=>by
   rcases aD with aD|⟨rfl,_⟩
   ·exact aD
   ·rw [ar] at az;cases az⟩
 have cg:dq w (p.ea b True) (s.del b):=by
  refine ⟨fun aW o an=>?_,fun aW o aD=>by rcases aD with aD|⟨rfl,_⟩;exact h.wf.lt _ _ aD;exact aw⟩;by_cases e:aW=b
  ·subst e;rw [al.nw] at an;cases an
  ·rw [al.mO _ e] at an
   have ah:=h.wf.obj aW o an;have fa:∀ o,p.ea b True aW o↔p aW o:=fun o=>⟨fun aD=>by rcases aD with aD|⟨e',_⟩;exact aD;exact absurd e' e,.inl⟩
   cases o with
   | box t c=>obtain ⟨us,g1,g2,g3⟩:=ah;exact ⟨us,g1,g2.mono hle,fun o aD=>g3 o ((fa o).1 aD)⟩
   | row t sz n=>obtain ⟨cur,g1,g2,g3,g4⟩:=ah;exact ⟨cur,g1,g2,g3,fun o=>(fa o).trans (g4 o)⟩
   | map es=>obtain ⟨cN,c,g1,g2,g3⟩:=ah;exact ⟨cN,c,g1,⟨g2.1.mono hle,g2.2.mono hle⟩,g3⟩
   | ll es it l c=>exact ah.qz hle C C
   | tick m=>exact ah
   | loop r env=>exact ⟨ah.1,fun t v h=>(ah.2 t v h).mono hle⟩
 have aJ:=h.step hle aA cg;refine ⟨_,⟨aJ.size,fun bK v au=>?_,aJ.wf,aJ.defs,aJ.round,aJ.base⟩,hle,aA⟩;simp only [Env.get?] at au;split at au
 ·rename_i he
  have:=ae0 he;subst this;cases au;have aC:=h.env t _ aL;generalize a.tmps.getD t undef=dQ at aC;cases aC;have hl:=ad.take (n*sz);rw [ab] at hl;obtain ⟨us,cd,b1,ek⟩:=GP hl b';refine .aB b 0 n cap sz us (xss.map af.agg) .bc ba (by rw [f0,fg]) ?_ (cd.mono hle) ek hm az (fun h=>by cases h) (fun b h=>by cases h);rw [b1];intro i v aN;refine ⟨.inr ⟨rfl,trivial⟩,?_⟩;rw [af8,jE U];rw [ai2] at aN;split at aN
  ·simpa using aN
  ·cases aN
 ·exact aJ.env bK v au
theorem ae.I7 {c:Code} (I:Ok s L) (t b:Nat) {n cap sz:Nat} {T:TypeId} {cs:List af} {xss:List (List af)} (aL:env.get? t=some (eh b n cap)) (ar:bo L (.own b) (.box T cs) R) (ab:cs.take (n*sz)=xss.flatten) (fg:xss.length=n) (b':∀ c∈xss,c.length=sz) (az:n≤cap) (hm:n≤9223372036854775807)
  (h:Ok s R→ae P N c Q ((t,.aB sz (xss.map af.agg) .bc)::env) (aS s R)):ae P N c Q env (aS s L):=by
 obtain ⟨U,ad⟩:=ar.del I;intro tu B a w p eZ aJ;obtain ⟨bj,aj,a',bz⟩:=aJ.I7 aL (ar.get I) ab fg b' az hm;rw [U] at aj bz;exact mh (h ad tu B a w bj eZ aj) fun _ _ _ q=>q.after a' bz
end
def BT (n:Nat) (order:List Int) (j:Nat) (R:List Int):Prop:=R.length=n∧∀ (i:Nat) (x:Int),i<j→order[i]? = some x→R[x.toNat]? = some ((order.length:Int)-1-i)
theorem BT.step {n:Nat} {order:List Int} (ah:ld n order) {j:Nat} {R:List Int} (h:BT n order j R) {a:Nat} (aR:order[j]? = some (a:Int)):BT n order (j+1) (R.set a ((order.length:Int)-1-j)):=by
 have m3:=ah.lt _ (d6 aR);refine ⟨by rw [ag3];exact h.1,fun i x aN ab=>?_⟩;have fg:=ah.lt _ (d6 ab);by_cases eR:i=j
 ·subst eR
  rw [aR] at ab;cases ab;rw [i9,am2 (by rw [h.1];omega)]
 ·have cE:x≠(a:Int):=fun e=>by
   have U:=qm ah.nodup ab;have ad:=qm ah.nodup aR;rw [e,ad] at U;omega
  rw [ap2 ag];exact h.2 i x ag ab
theorem BT.all {n:Nat} {order:List Int} (ah:ld n order) {R:List Int} (h:BT n order order.length R) {x:Int} (ab:x∈order):R[x.toNat]? = some ((order.length:Int)-1-placeOf order x):=by
 obtain ⟨i,aN⟩:=ag2 ab;rw [qm ah.nodup aN];exact h.2 i x (t7.1 aN).1 aN
def oI:bI→Nat→List Int×Nat
 | .leaf ms,_=>(ms,0)
 | .test i a b,v=>((if v.testBit i then oI b v else oI a v).1,(if v.testBit i then oI b v else oI a v).2+1)
theorem Zz {h:Nat→List Int}:∀ {vs:List Nat},nO h vs=true→∀ v∈vs,firstM h vs=h v
  | u::r,aR,v,au=>by
    rw [firstM];rcases af1.1 au with rfl|au
    · rfl
    · rw [nO,ag6] at aR
      exact (beq_iff_eq.1 (aR v au)).symm
theorem Ez (A:Nat) (h:Nat→List Int):∀ (n:Nat) (vs:List Nat),vs.length≤n→(∀ u∈vs,u<2^A)→∀ v∈vs,(oI (fF A h vs) v).1=h v
  | n,vs,az,h7,v,au=>by
    have lf:=y0 A h vs;cases aR:nO h vs with
    | true=>
      rw [aR,g6 C] at lf;rw [lf,oI];exact Zz aR v au
    | false=>
      rw [aR,d9 ba] at lf;obtain ⟨o,ah⟩:=Ia (A:=A) (h:=h) (vs:=vs) h7 aR (fF A h);rw [ah,ae'] at lf;rw [lf];refine D6 (Pr:=fun t=>(oI t v).1=h v) _ none (fun _ h=>by cases h) (fun i _ he=>?_) o ah;have aE:=xh he;cases n with
      | zero=>omega
      | succ n=>
        simp only [oI];cases an:v.testBit i with
        | true=>
          rw [g6 C];exact Ez A h n (fp i vs) ag (fun u hu=>h7 u (ae3.1 hu).1) v (ae3.2 ⟨au,an⟩)
        | false=>
          rw [d9 ba];exact Ez A h n (fq i vs) ag (fun u hu=>h7 u (ae3.1 hu).1) v (ae3.2 ⟨au,by rw [an];rfl⟩)
inductive kp (g:List bw) (v:Nat):Nat→List Int→Nat→Prop
 | leaf {j:Nat} {x:bw}:g[j]? = some x→¬ x.atom≥0→kp g v j x.ms 0
 | test {j k:Nat} {x:bw} {ms:List Int} {s:Nat}:g[j]? = some x→x.atom≥0→(if v.testBit x.atom.toNat then x.yes else x.no)=(k:Int)→kp g v k ms s→kp g v j ms (s+1)
theorem kp.leads {g:List bw} {v j:Nat} {ms:List Int} {s:Nat} (h:kp g v j ms s):∀ (f n:Nat),s≤f→(rq g v f (j:Int) n).2=n+s∧(s<f→(g.getD (rq g v f (j:Int) n).1.toNat default).ms=ms):=by
 induction h with
 | leaf aH aR=>
  rename_i j x;intro f n a7;have ay:g.getD (j:Int).toNat default=x:=by rw [i9,d5,aH];rfl
  cases f with
  | zero=>rw [rq];exact ⟨rfl,fun h=>absurd h ag⟩
  | succ f=>rw [rq,ay,d9 aR];exact ⟨rfl,fun _=>by rw [ay]⟩
 | test aH aR aA _ aX=>
  rename_i j k x ms s _;intro f n a7;have ay:g.getD (j:Int).toNat default=x:=by rw [i9,d5,aH];rfl
  cases f with
  | zero=>omega
  | succ f=>
   rw [rq,ay,g6 aR,aA];obtain ⟨U,ad⟩:=aX f (n+1) ag;exact ⟨by omega,fun h=>ad ag⟩
def iV (g:List bw):bI→Nat→Nat→Prop
 | .leaf ms,en,j=>en≤j∧g[j]? = some ⟨-1,0,0,ms⟩
 | .test i a b,en,j=>en≤j∧∃ x y:Nat,g[j]? = some ⟨i,x,y,[]⟩∧iV g a (j+1) x∧iV g b (j+1) y
theorem iV.low {g:List bw}:∀ {t:bI} {en lo' j:Nat},lo'≤en→iV g t en j→iV g t lo' j
 | .leaf _,en,lo',j,h,aC=>by rw [iV] at aC ⊢;exact ⟨by omega,aC.2⟩
 | .test _ _ _,en,lo',j,h,aC=>by rw [iV] at aC ⊢;exact ⟨by omega,aC.2⟩
theorem iV.ext {g g':List bw}:∀ {t:bI} {en j:Nat},(∀ k,en≤k→k<g.length→g'[k]? = g[k]?)→iV g t en j→iV g' t en j
  | .leaf _,en,j,h,aC=>by
    rw [iV] at aC ⊢;exact ⟨aC.1,by rw [h j aC.1 (t7.1 aC.2).1];exact aC.2⟩
  | .test i a b,en,j,h,aC=>by
    rw [iV] at aC ⊢;obtain ⟨U,x,y,ad,aj,a'⟩:=aC;exact ⟨U,x,y,by rw [h j U (t7.1 ad).1];exact ad,aj.ext fun k aA=>h k ag,a'.ext fun k aA=>h k ag⟩
theorem EA:∀ (t:bI) (L:List bw),iV (bI.laid L t) t L.length L.length
  | .leaf ms,L=>by
    rw [iV,bI.laid];exact ⟨g9 _,by rw [af0 (g9 _),an6];rfl⟩
  | .test i a b,L=>by
    have U:=qf a (L++[⟨i,0,0,[]⟩]);have ad:=qf b (bI.laid (L++[⟨i,0,0,[]⟩]) a);have jI:=a.py;have u5:=b.py;have bM:(L++[(⟨i,0,0,[]⟩:bw)]).length=L.length+1:=by simp
    rw [bM] at U;have O0:=EA a (L++[⟨i,0,0,[]⟩]);have ZA:=EA b (bI.laid (L++[⟨i,0,0,[]⟩]) a);rw [bM] at O0;have la:bI.laid L (.test i a b)=(bI.laid (bI.laid (L++[⟨i,0,0,[]⟩]) a) b).set L.length ⟨i,(L.length:Int)+1,((bI.laid (L++[⟨i,0,0,[]⟩]) a).length:Int),[]⟩:=rfl;rw [iV];refine ⟨g9 _,L.length+1,(bI.laid (L++[⟨i,0,0,[]⟩]) a).length,?_,?_,?_⟩
    · rw [la,am2 ag];rfl
    · refine O0.ext fun k aA hL=>?_
      rw [la,ap2 ag,y4 b _ k hL]
    · refine (ZA.low (lo':=L.length+1) ag).ext fun k aA hL=>?_
      rw [la,ap2 ag]
theorem iV.walk {g:List bw} (v:Nat):∀ {t:bI} {en j:Nat},iV g t en j→kp g v j (oI t v).1 (oI t v).2
  | .leaf ms,en,j,h=>by
    rw [iV] at h;exact kp.leaf h.2 (by show ¬ ((-1:Int)≥0);omega)
  | .test i a b,en,j,h=>by
    rw [iV] at h;obtain ⟨-,x,y,U,ad,aj⟩:=h;simp only [oI];cases an:v.testBit i with
    | true=>
      simp only [ag7];exact kp.test (k:=y) U (an8 i) (by simp only [i9,an,ag7]) (aj.walk v)
    | false=>
      simp only [af6,ah9];exact kp.test (k:=x) U (an8 i) (by simp only [i9,an,af6,ah9]) (ad.walk v)
theorem BU:∀ (l:List bw) (i k:Nat) (a:Int),(b3 i l).1[k]? = some a→∃ b:Nat,a=(i+b:Nat)∧k≤b∧(b3 i l).2[b]? = (b3 i l).2[k]?
  | [],i,k,a,h=>by rw [b3] at h;simp at h
  | x::r,i,k,a,h=>by
    rw [b3] at h ⊢;simp only at h ⊢;cases k with
    | succ k=>
      rw [ak0] at h;obtain ⟨b,U,ad,aj⟩:=BU r (i+1) k a h;exact ⟨b+1,by omega,by omega,by rw [ak0,ak0];exact aj⟩
    | zero=>
      rw [as0,al'.injEq] at h;split at h
      · rename_i j aH
        obtain ⟨U,ad,z,aj,a'⟩:=IE aH;rw [f9] at a';rw [Nat.sub_zero] at aj;exact ⟨j+1,by omega,by omega,by rw [ak0,as0,aj];exact ae7 some (beq_iff_eq.1 a'.2)⟩
      · exact ⟨0,by omega,g9 _,rfl⟩
theorem ZB {g:List bw} (av:nR g) {v j:Nat} {ms:List Int} {s:Nat} (h:kp g v j ms s):∀ a:Nat,(b3 0 g).1[j]? = some (a:Int)→kp (b3 0 g).2 v a ms s:=by
 induction h with
 | leaf aH aR=>
  rename_i j x;intro a ab;obtain ⟨b,U,-,aj⟩:=BU g 0 j _ ab;have az:=xD av aH;unfold j4 at az;rw [d9 aR] at az;have:b=a:=by omega
  subst this;exact kp.leaf (aj.trans az) aR
 | test aH aR aA _ aX=>
  rename_i j k x ms s _;intro a ab;obtain ⟨b,U,-,aj⟩:=BU g 0 j _ ab;have:b=a:=by omega
  subst this;have az:=xD av aH;unfold j4 at az;rw [g6 aR] at az;have ay:=av.eU j x aH aR;have qc:k<g.length:=by split at aA<;>omega
  obtain ⟨c,aF,-,-⟩:=tV av qc;refine kp.test (k:=c) (aj.trans az) aR ?_ (aX c aF);have EB:(b3 0 g).1.getD k 0=(c:Int):=by rw [d5,aF];rfl
  simp only;split at aA
  ·rename_i an;rw [g6 an,aA,i9,EB]
  ·rename_i an;rw [d9 an,aA,i9,EB]
theorem ZC {N:List bw} {n:Nat} {order:List Int} (ah:ld n order) (cj:∀ y∈order,rD N order y) {v j:Nat} {ms:List Int} {s:Nat} (h:kp N v j ms s):(j:Int)∈order→∀ q:Nat,(q:Int)=(order.length:Int)-1-placeOf order (j:Int)→kp (order.reverse.map (hB N order)) v q ms s:=by
 have de:∀ (j:Nat) (x:bw) (q:Nat),N[j]? = some x→(j:Int)∈order→(q:Int)=(order.length:Int)-1-placeOf order (j:Int)→(order.reverse.map (hB N order))[q]? = some (hB N order (j:Int)):=fun j x q aH hm bk=>by
  obtain ⟨i,aN⟩:=ag2 hm;have aD:=qm ah.nodup aN;have l5:=(t7.1 aN).1;rw [aD] at bk;rw [af3,List.getElem?_reverse ag,show order.length-1-q=i by omega,aN];rfl
 have h4:∀ (j:Nat) (x:bw),N[j]? = some x→hB N order (j:Int)=if x.atom≥0 then { x with no:=(order.length:Int)-1-placeOf order x.no,yes:=(order.length:Int)-1-placeOf order x.yes } else x:=fun j x aH=>by
  unfold hB;simp only [i9,d5,aH,ae']
 induction h with
 | leaf aH aR=>
  rename_i j x;intro hm q bk;have U:=de j x q aH hm bk;rw [h4 j x aH,d9 aR] at U;exact kp.leaf U aR
 | test aH aR aA _ aX=>
  rename_i j k x ms s _;intro hm q bk;have U:=de j x q aH hm bk;rw [h4 j x aH,g6 aR] at U;have m':=cj _ hm x (by rw [i9];exact aH) aR;have EC:(k:Int)∈order:=by rw [← aA];split;exact m'.2;exact m'.1
  obtain ⟨i,aN⟩:=ag2 EC;have aD:=qm ah.nodup aN;have l5:=(t7.1 aN).1;refine kp.test (k:=order.length-1-i) U aR ?_ (aX EC _ (by rw [aD];omega));simp only;split at aA
  ·rename_i an;rw [g6 an,aA,aD];omega
  ·rename_i an;rw [d9 an,aA,aD];omega
theorem O1:∀ (a b:List (List Int)) (up:List Nat),j0 up (a++b)=j0 (j0 up a) b
 | [],b,up=>rfl
 | x::a,b,up=>by rw [ad',j0,O1 a b,← j0]
theorem O2:∀ (ps:List (List Int)) (up:List Nat),∃ r,j0 up ps=up++r
  | [],up=>⟨[],by rw [j0,d7]⟩
  | l::r,up=>by
    obtain ⟨t,h⟩:=O2 r (up++[sd up l]);exact ⟨[sd up l]++t,by rw [j0,h,af9]⟩
theorem BV {ps:List (List Int)} {i k:Nat} (aN:i≤ps.length) (aA:k<3+i):(eV (ps.take i)).getD k 0=(eV ps).getD k 0:=by
 have h:eV ps=j0 (eV (ps.take i)) (ps.drop i):=by
  show j0 [1,3,5] ps=j0 (j0 [1,3,5] (ps.take i)) (ps.drop i);rw [← O1,List.take_append_drop]
 obtain ⟨r,aC⟩:=O2 (ps.drop i) (eV (ps.take i));rw [h,aC];have aE:(eV (ps.take i)).length=3+i:=by rw [tC,ae8,am6 aN]
 rw [d5,d5,af' ag]
theorem ZD {ps:List (List Int)} {i:Nat} {l:List Int} (aE:ps[i]? = some l):(eV ps).getD (3+i) 0=sd (eV (ps.take i)) l:=by
 have aN:=(t7.1 aE).1;rw [← BV (i:=i+1) ag ag];have:ps.take (i+1)=ps.take i++[l]:=by rw [an2,aE];rfl
 rw [this,Mu,d5,af0 (by rw [tC,ae8];omega)];rw [tC,ae8,am6 ag,an6];rfl
theorem O3 (up:List Nat) (k:Nat):∀ (l:List Int) (s:Nat),(l.foldl (fun s p=>s|||up.getD p.toNat 0) s).testBit k=(s.testBit k||l.any fun p=>(up.getD p.toNat 0).testBit k)
 | [],s=>by simp
 | p::r,s=>by rw [ah4,O3 up k r,al5,List.any_cons,aq8]
theorem BW (k:Nat):(1:Nat).testBit k=decide (k=0):=by
 cases k with
 | zero=>rfl
 | succ k=>rw [Nat.testBit_succ];simp
theorem ZE (c k:Nat):(2^c).testBit k=decide (c=k):=Nat.testBit_two_pow
theorem ED {w:bx} (hw:gg w) {i:Nat} {l:List Int} (aE:w.ps[i]? = some l) (k:Nat):((eV w.ps).getD (3+i) 0).testBit k=(decide (k=0)||(decide (3+i=k)||l.any fun p=>((eV w.ps).getD p.toNat 0).testBit k)):=by
 have aN:=(t7.1 aE).1;rw [ZD aE,sd,O3,al5,BW,ZE];rw [show (eV (w.ps.take i)).length=3+i by rw [tC,ae8,am6 ag],aq8];congr 2;have av:=DE hw.oh aE;rw [af4,ag5,ag5];constructor <;>
 ·rintro ⟨p,aD,h⟩
  obtain ⟨j,aH⟩:=ag2 aD;have:=DF av aH;refine ⟨p,aD,?_⟩;have e:=BV (ps:=w.ps) (i:=i) (k:=p.toNat) ag ag
  first|rw [← e];exact h|rw [e];exact h
theorem xG {w:bx} (hw:gg w) {i:Nat} {l:List Int} (aE:w.ps[i]? = some l) {p:Int} (aD:p∈l):3≤p∧p<3+(i:Int):=by
 obtain ⟨j,aH⟩:=ag2 aD;have:=DF (DE hw.oh aE) aH;omega
theorem EE {w:bx} (hw:gg w) {c:Nat} (U:c<3+w.ps.length):((eV w.ps).getD c 0).testBit c=true:=by
 by_cases h:c<3
 ·rw [← BV (ps:=w.ps) (i:=0) (g8 _) ag,al6]
  rcases (by omega:c=0∨c=1∨c=2) with rfl|rfl|rfl<;>rfl
 ·obtain ⟨i,rfl⟩:∃ i,c=3+i:=⟨c-3,by omega⟩
  rw [ED hw (f7 ag)];simp
theorem ZF {w:bx} (hw:gg w) {c:Nat} (U:c<3+w.ps.length):((eV w.ps).getD c 0).testBit 0=true:=by
 by_cases h:c<3
 ·rw [← BV (ps:=w.ps) (i:=0) (g8 _) ag,al6]
  rcases (by omega:c=0∨c=1∨c=2) with rfl|rfl|rfl<;>rfl
 ·obtain ⟨i,rfl⟩:∃ i,c=3+i:=⟨c-3,by omega⟩
  rw [ED hw (f7 ag)];simp
theorem EF {w:bx} {c k:Nat} (aF:c<3) (h:((eV w.ps).getD c 0).testBit k=true):k=c∨k=0:=by
 rw [← BV (ps:=w.ps) (i:=0) (g8 _) ag,al6] at h;rcases (by omega:c=0∨c=1∨c=2) with rfl|rfl|rfl
 ·rw [show (eV []).getD 0 0=1 from rfl,BW,i7] at h
  exact .inr h
 ·have:k<2:=by
   rcases ar6 k 2 with ad|ad
   ·exact ad
   ·have:=an1 (x:=3) (i:=k) (ak8 ec (ah7 ec ad))
    rw [show (eV []).getD 1 0=3 from rfl,this] at h;cases h
  omega
 ·have:k<3:=by
   rcases ar6 k 3 with ad|ad
   ·exact ad
   ·have:=an1 (x:=5) (i:=k) (ak8 ec (ah7 ec ad))
    rw [show (eV []).getD 2 0=5 from rfl,this] at h;cases h
  rcases (by omega:k=0∨k=1∨k=2) with rfl|rfl|rfl
  ·exact .inr C
  ·exact absurd h ec
  ·exact .inl C
theorem zj {w:bx} (hw:gg w):∀ (n c k:Nat),c<n→c<3+w.ps.length→((eV w.ps).getD c 0).testBit k=true→k≤c∧(3≤c→k=0∨3≤k)
  | 0,_,_,h,_,_=>by omega
  | n+1,c,k,h,aF,an=>by
    by_cases aj:c<3
    · have:=EF aj an;omega
    · obtain ⟨i,rfl⟩:∃ i,c=3+i:=⟨c-3,by omega⟩
      obtain ⟨l,aE⟩:∃ l,w.ps[i]? = some l:=⟨_,f7 ag⟩;rw [ED hw aE] at an;simp only [aj0,i7,ag5] at an;rcases an with an|an|⟨p,aD,an⟩
      · omega
      · omega
      · have U:=xG hw aE aD
        have:=zj hw n p.toNat k ag ag an;omega
def hp (ps:List (List Int)):Nat→(Nat→Bool)→Nat→Bool
 | 0,f=>f
 | m+1,f=>hp ps m fun k=>f k||(f (3+m)&&(ps.getD m []).contains (k:Int))
theorem I8 {w:bx} (hw:gg w):∀ (m:Nat) (f:Nat→Bool) (k:Nat),k<3→m≤w.ps.length→hp w.ps m f k=f k
  | 0,f,k,_,_=>rfl
  | m+1,f,k,aA,hm=>by
    obtain ⟨l,aE⟩:∃ l,w.ps[m]? = some l:=⟨_,f7 ag⟩;rw [hp,I8 hw m _ k aA ag,d5,aE,ae'];have:l.contains (k:Int)=false:=by
      rw [af5];intro h;have:=xG hw aE (ah8.1 h);omega
    rw [this,ak9,an0]
theorem I9 {w:bx} (hw:gg w):∀ (m:Nat) (f:Nat→Bool) (k:Nat),3≤k→m≤w.ps.length→(hp w.ps m f k=true↔f k=true∨∃ j,j<m∧f (3+j)=true∧((eV w.ps).getD (3+j) 0).testBit k=true)
  | 0,f,k,_,_=>by
    rw [hp];constructor
    · exact .inl
    · rintro (h|⟨j,h,_⟩)
      · exact h
      · omega
  | m+1,f,k,aA,hm=>by
    obtain ⟨l,aE⟩:∃ l,w.ps[m]? = some l:=⟨_,f7 ag⟩;rw [hp,I9 hw m _ k aA ag,d5,aE,ae'];have sq:=ED hw aE k;simp only [aj0,f9,ah8];constructor
    · rintro ((h|⟨U,ad⟩)|⟨j,aH,h,an⟩)
      · exact .inl h
      · refine .inr ⟨m,am1 _,U,?_⟩
        rw [sq];have aj:=xG hw aE ad;simp only [aj0,ag5];exact .inr (.inr ⟨(k:Int),ad,by rw [i9];exact EE hw ag⟩)
      · rcases h with h|⟨U,ad⟩
        · exact .inr ⟨j,by omega,h,an⟩
        · refine .inr ⟨m,am1 _,U,?_⟩
          rw [sq];simp only [aj0,ag5];exact .inr (.inr ⟨((3+j:Nat):Int),ad,by rw [i9];exact an⟩)
    · rintro (h|⟨j,aH,h,an⟩)
      · exact .inl (.inl h)
      · rcases ah5.1 aH with aH|rfl
        · exact .inr ⟨j,aH,.inl h,an⟩
        · rw [sq] at an
          simp only [aj0,i7,ag5] at an;rcases an with an|an|⟨p,aD,an⟩
          · omega
          · subst an;exact .inl (.inl h)
          · have aj:=xG hw aE aD
            refine .inr ⟨p.toNat-3,by omega,.inr ⟨h,?_⟩,?_⟩
            · rw [show ((3+(p.toNat-3):Nat):Int)=p by omega];exact aD
            · rw [show 3+(p.toNat-3)=p.toNat by omega];exact an
def xH (w:bx) (c:Nat):Nat→Bool:=hp w.ps (c-2) fun k=>decide (k=c)
theorem I' {w:bx} (hw:gg w) {c k:Nat} (aF:c<3+w.ps.length) (aA:1≤k):xH w c k=((eV w.ps).getD c 0).testBit k:=by
 unfold xH;by_cases aj:c<3
 ·rw [show c-2=0 by omega,hp,af4,i7]
  constructor
  ·rintro rfl;exact EE hw aF
  ·intro h;have:=EF aj h;omega
 ·by_cases s6:k<3
  ·rw [I8 hw _ _ _ s6 ag]
   rw [af4,i7];constructor
   ·omega
   ·intro h;have:=zj hw (c+1) c k ag aF h;omega
  ·rw [af4,I9 hw _ _ _ ag ag]
   simp only [i7];constructor
   ·rintro (rfl|⟨j,aH,rfl,an⟩)
    ·exact EE hw aF
    ·exact an
   ·intro h;exact .inr ⟨c-3,by omega,by omega,by rw [show 3+(c-3)=c by omega];exact h⟩
theorem Ja {w:bx} (hw:gg w):∀ (m:Nat) (f:Nat→Bool) (k:Nat),3+m≤k→m≤w.ps.length→hp w.ps m f k=f k
  | 0,f,k,_,_=>rfl
  | m+1,f,k,aA,hm=>by
    obtain ⟨l,aE⟩:∃ l,w.ps[m]? = some l:=⟨_,f7 ag⟩;rw [hp,Ja hw m _ k ag ag,d5,aE,ae'];have:l.contains (k:Int)=false:=by
      rw [af5];intro h;have:=xG hw aE (ah8.1 h);omega
    rw [this,ak9,an0]
theorem EG (ps:List (List Int)):∀ (m:Nat) (f g:Nat→Bool),(∀ k,f k=g k)→∀ k,hp ps m f k=hp ps m g k
  | 0,f,g,h,k=>h k
  | m+1,f,g,h,k=>by
    rw [hp,hp];exact EG ps m _ _ (fun k=>by rw [h,h]) k
theorem Jb {cs:List fM} {w:bx} (hw:gg w) (pM:w.ps=cs.map fM.parents):∀ (m:Nat) (up out:List Int) (s:Int),m≤cs.length→(s∈oo cs m up out↔s∈out∨∃ j,j<m∧hp w.ps m (fun k=>up.contains (k:Int)) (3+j)=true∧s∈(cs.getD j default).bn)
  | 0,up,out,s,_=>by
    rw [oo];constructor
    · exact .inl
    · rintro (h|⟨j,h,_⟩)
      · exact h
      · omega
  | m+1,up,out,s,hm=>by
    have aE:m<cs.length:=by omega
    have gH:w.ps.length=cs.length:=by rw [pM,f0]
    have ZG:w.ps.getD m []=(cs.getD m default).parents:=by
      rw [pM,d5,d5,af3,f7 aE];rfl
    rw [oo];have ek:((m:Int)+3)=((3+m:Nat):Int):=by omega
    rw [ek];cases hu:up.contains ((3+m:Nat):Int) with
    | true=>
      rw [g6 C,Jb hw pM m _ _ s ag];have aF:∀ k,hp w.ps m (fun k=>(up++(cs.getD m default).parents).contains (k:Int)) k=hp w.ps (m+1) (fun k=>up.contains (k:Int)) k:=fun k=>by
        rw [hp];refine EG _ _ _ _ (fun k=>?_) k;rw [an',hu,f5,ZG]
      simp only [aF,ae4];constructor
      · rintro ((h|h)|⟨j,U,ad,aj⟩)
        · exact .inl h
        · exact .inr ⟨m,by omega,by rw [hp,Ja hw m _ _ (g9 _) ag,hu,al9],h⟩
        · exact .inr ⟨j,by omega,ad,aj⟩
      · rintro (h|⟨j,U,ad,aj⟩)
        · exact .inl (.inl h)
        · rcases ah5.1 U with U|rfl
          · exact .inr ⟨j,U,ad,aj⟩
          · exact .inl (.inr aj)
    | false=>
      rw [d9 ba,Jb hw pM m _ _ s ag];have aF:∀ k,hp w.ps (m+1) (fun k=>up.contains (k:Int)) k=hp w.ps m (fun k=>up.contains (k:Int)) k:=fun k=>by
        rw [hp];exact EG _ _ _ _ (fun k=>by rw [hu,f6,an0]) k
      simp only [aF];constructor
      · rintro (h|⟨j,U,ad,aj⟩)
        · exact .inl h
        · exact .inr ⟨j,by omega,ad,aj⟩
      · rintro (h|⟨j,U,ad,aj⟩)
        · exact .inl h
        · rcases ah5.1 U with U|rfl
          · exact .inr ⟨j,U,ad,aj⟩
          · rw [Ja hw _ _ _ (g9 _) ag,hu] at ad
            cases ad
theorem O4:∀ {l:List Int} {n m:Int},nG n l=some m→m=n+l.length∧∀ s,s∈l↔n≤s∧s<n+l.length
  | [],n,m,h=>by rw [nG] at h;cases h;exact ⟨by simp,fun s=>by simp⟩
  | x::r,n,m,h=>by
    rw [nG] at h;split at h
    · rename_i ab
      subst ab;obtain ⟨U,ad⟩:=O4 h;refine ⟨by rw [i0];omega,fun s=>?_⟩;rw [af1,ad,i0];omega
    · cases h
theorem Jc:∀ {l:List fM} {i:Nat} {n m:Int},lC n l=some m→m=n+(fD i l).length∧∀ (j:Nat) (c:fM),l[j]? = some c→∀ s:Int,s∈c.bn↔n≤s∧(fD i l)[(s-n).toNat]? = some ((i:Int)+j+3)
  | [],i,n,m,h=>by rw [lC] at h;cases h;exact ⟨by simp [fD],fun j c h=>by simp at h⟩
  | x::r,i,n,m,h=>by
    rw [lC] at h;split at h
    · cases aA:nG n x.bn with
      | none=>rw [aA] at h;cases h
      | some k=>
        rw [aA,Option.bind_some] at h;obtain ⟨U,ad⟩:=O4 aA;obtain ⟨aj,a'⟩:=Jc (i:=i+1) h;refine ⟨by rw [fD,f8,ag1];push_cast;omega,fun j c aH s=>?_⟩;rw [fD];cases j with
        | zero=>
          have:x=c:=by simpa using aH
          subst this;rw [ad];constructor
          · intro ar
            refine ⟨ar.1,?_⟩;rw [af' uO,au8,g6 ag];simp
          · rintro ⟨g1,g2⟩
            by_cases ar:s<n+x.bn.length
            · exact ⟨g1,ar⟩
            · rw [af0 uO] at g2
              have:=DJ r (i+1) _ (d6 g2);omega
        | succ j=>
          rw [a' j c (by simpa using aH)];constructor
          · rintro ⟨g1,g2⟩
            refine ⟨by omega,?_⟩;rw [af0 uO,ag1,show (s-n).toNat-x.bn.length=(s-k).toNat by omega,g2];congr 1;push_cast;omega
          · rintro ⟨g1,g2⟩
            by_cases ar:s<k
            · rw [af' uO,au8,g6 ag] at g2
              have:=al'.inj g2;omega
            · rw [af0 uO,ag1,show (s-n).toNat-x.bn.length=(s-k).toNat by omega] at g2
              refine ⟨by omega,g2.trans ?_⟩;congr 1;push_cast;omega
    · cases h
theorem ZH {p:bR} {n:Int} (ar:lC 0 p.cm=some n) (hw:gg (bT p)) {i:Nat} (aN:i<p.cm.length) (s:Int) :
  (pe p i).contains s=(decide (s≥0)&&(decide (s<n)&&((eV (bT p).ps).getD (3+i) 0).testBit ((bT p).owner.getD s.toNat 0).toNat)):=by
 obtain ⟨U,ad⟩:=Jc (i:=0) ar;have gH:(bT p).ps.length=p.cm.length:=f0 _;have gz:(bT p).owner=fD 0 p.cm:=rfl;rw [af4,ah8];unfold pe pd;rw [List.mem_mergeSort,Jb hw C (i+1) _ _ s ag];have aF:∀ k,hp (bT p).ps (i+1) (fun k=>[(i:Int)+3].contains (k:Int)) k=xH (bT p) (3+i) k:=fun k=>by
  unfold xH;rw [show 3+i-2=i+1 by omega];refine EG _ _ _ _ (fun k=>?_) k;rw [af4,ah8,t6,i7];omega
 simp only [aF,f9,i7];rw [gz];constructor
 ·rintro (h|⟨j,aH,an,hm⟩)
  ·cases h
  ·have qJ:j<p.cm.length:=by omega
   obtain ⟨c,BX⟩:∃ c,p.cm[j]? = some c:=⟨_,f7 qJ⟩;rw [d5,BX,ae'] at hm;obtain ⟨g1,g2⟩:=(ad j c BX s).1 hm;rw [aD7] at g2;have g3:=(t7.1 g2).1;refine ⟨g1,by omega,?_⟩;rw [show (fD 0 p.cm).getD s.toNat 0=((0:Nat):Int)+(j:Int)+3 by rw [d5,g2];rfl,← I' hw ag ag];rw [show (((0:Nat):Int)+(j:Int)+3).toNat=3+j by omega];exact an
 ·rintro ⟨g1,g2,g3⟩
  obtain ⟨o,ah⟩:∃ o,(fD 0 p.cm)[s.toNat]? = some o:=⟨_,f7 ag⟩;have NF:=DJ p.cm 0 o (d6 ah);rw [show (fD 0 p.cm).getD s.toNat 0=o by rw [d5,ah];rfl] at g3;have hle:=zj hw (3+i+1) (3+i) o.toNat ag ag g3;obtain ⟨j,aH⟩:∃ j:Nat,o=3+(j:Int):=⟨(o-3).toNat,by omega⟩;obtain ⟨c,BX⟩:∃ c,p.cm[j]? = some c:=⟨_,f7 ag⟩;refine .inr ⟨j,by omega,?_,?_⟩
  ·rw [I' hw ag ag,show 3+j=o.toNat by omega]
   exact g3
  ·rw [d5,BX,ae']
   refine (ad j c BX s).2 ⟨g1,?_⟩;rw [aD7,ah,aH];congr 1;omega
mutual
def oJ:ao→Int
 | .mk _ _ _ _ _ ks=>1+kL ks
def kL:List ao→Int
 | []=>0
 | x::r=>oJ x+kL r
end
mutual
def ng:ao→Int→Int
 | .mk _ _ _ _ _ ks,fN=>pD ks fN 1
def pD:List ao→Int→Int→Int
 | [],_,n=>n
 | x::r,fN,n=>if n≤fN then pD r fN (n+ng x (fN-n)) else n
end
mutual
def nh:ao→Int
 | .mk _ _ _ _ _ ks=>ma 0 ks+1
def ma (m:Int):List ao→Int
 | []=>m
 | x::r=>ma (max m (nh x)) r
end
theorem O5 (f:ao) (m:Int):ng f m=pD f.kids m 1:=by cases f;rw [ng];rfl
theorem ZI (f:ao):nh f=ma 0 f.kids+1:=by cases f;rw [nh];rfl
mutual
theorem EH:∀ f:ao,1≤oJ f∧oJ f≤(f.size:Int)
  | .mk _ _ p _ _ ks=>by
    have:=vr ks;rw [oJ,ao.size];push_cast;omega
theorem vr:∀ l:List ao,0≤kL l∧kL l≤(ao.iC l:Int)
  | []=>by rw [kL];exact ⟨ak6 _,by simp⟩
  | x::r=>by
    have U:=EH x;have ad:=vr r;rw [kL,ao.iC];push_cast;omega
end
mutual
theorem Jd:∀ (f:ao) (fN:Int),(oJ f≤fN→ng f fN=oJ f)∧(oJ f>fN→ng f fN>fN)∧ng f fN≤oJ f∧1≤ng f fN
  | .mk _ _ _ _ _ ks,fN=>by
    rw [oJ,ng];exact O6 ks fN 1
theorem O6:∀ (l:List ao) (fN n:Int),(n+kL l≤fN→pD l fN n=n+kL l)∧(n+kL l>fN→pD l fN n>fN)∧pD l fN n≤n+kL l∧n≤pD l fN n
  | [],fN,n=>by rw [pD,kL];omega
  | x::r,fN,n=>by
    have U:=Jd x (fN-n);have ad:=O6 r fN (n+ng x (fN-n));have aj:=EH x;have a':=vr r;rw [pD,kL];split<;>omega
end
theorem Je:∀ (l:List ao) (m:Int),m≤ma m l
 | [],m=>by rw [ma];exact ak6 _
 | x::r,m=>by rw [ma];have:=Je r (max m (nh x));omega
theorem EI:∀ (l:List ao) (m d:Int),ma m l≤d↔m≤d∧∀ x∈l,nh x≤d
  | [],m,d=>by rw [ma];simp
  | x::r,m,d=>by
    rw [ma,EI r];constructor
    · rintro ⟨U,ad⟩
      refine ⟨by omega,fun y ax=>?_⟩;rcases af1.1 ax with rfl|ax
      · omega
      · exact ad y ax
    · rintro ⟨U,ad⟩
      exact ⟨by have:=ad x i8;omega,fun y ax=>ad y (i6 _ ax)⟩
mutual
theorem Jf:∀ f:ao,1≤nh f∧nh f≤(f.size:Int)
  | .mk _ _ p _ _ ks=>by
    have U:=EI ks 0 (ao.iC ks:Int);have ad:=Je ks 0;rw [nh,ao.size]
    have:ma 0 ks≤(ao.iC ks:Int):=U.2 ⟨by omega,fun x ab=>by
      have:=O7 ks x ab
      have:=ao.iQ ab
      omega⟩
    push_cast;omega
theorem O7:∀ (l:List ao),∀ x∈l,1≤nh x∧nh x≤(x.size:Int)
  | y::r,x,h=>by
    rcases af1.1 h with h|h
    · rw [h];exact Jf y
    · exact O7 r x h
end
mutual
theorem O8:∀ (f:ao) (w:bx) (d:Nat) (k:Int),((e1 w d k f).1=true↔oJ f≤k∧nh f≤d∧gM w f=true)∧((e1 w d k f).1=true→(e1 w d k f).2=k-oJ f)
  | .mk o a p c n ks,w,d,k=>by
    have ar:=vr ks;have ay:=Je ks 0;rw [e1,oJ,nh,gM];split
    · rename_i h
      simp only [aj0,i7] at h;refine ⟨⟨fun h=>nX,fun ⟨U,ad,_⟩=>by omega⟩,fun h=>nX⟩
    · rename_i h
      simp only [aj0,i7,not_or] at h;have aX:=O9 ks w (d-1) (k-1) ag;have e:ma 0 ks≤((d-1:Nat):Int)↔ma 0 ks+1≤(d:Int):=by omega
      split
      · rename_i az
        rw [az,f5];refine ⟨?_,fun h=>by rw [aX.2 h];omega⟩;rw [aX.1];constructor
        · rintro ⟨U,ad,aj⟩;exact ⟨by omega,e.1 ad,aj⟩
        · rintro ⟨U,ad,aj⟩;exact ⟨by omega,e.2 ad,aj⟩
      · rename_i az
        refine ⟨⟨fun h=>nX,fun ⟨_,_,h⟩=>?_⟩,fun h=>nX⟩;rw [f9] at h;exact absurd h.1 az
theorem O9:∀ (l:List ao) (w:bx) (d:Nat) (k:Int),0≤k→((gV w d k l).1=true↔kL l≤k∧ma 0 l≤d∧jJ w l=true)∧((gV w d k l).1=true→(gV w d k l).2=k-kL l)
  | [],w,d,k,aA=>by
    rw [gV,kL,ma,jJ];exact ⟨⟨fun _=>⟨aA,by omega,rfl⟩,fun _=>rfl⟩,fun _=>by simp⟩
  | x::r,w,d,k,aA=>by
    have ab:=O8 x w d k;have aD:=EH x;have aC:=vr r;rw [gV,kL,jJ,EI];split
    · rename_i h
      obtain ⟨U,ad,aj⟩:=ab.1.1 h;have he:=ab.2 h;rw [he];have aX:=O9 r w d (k-oJ x) ag;refine ⟨?_,fun h=>by rw [aX.2 h];omega⟩;rw [aX.1,aj,f5,EI];constructor
      · rintro ⟨dN,a2,a3⟩
        refine ⟨by omega,⟨a2.1,fun y ax=>?_⟩,a3⟩;rcases af1.1 ax with rfl|ax
        · exact ad
        · exact a2.2 y ax
      · rintro ⟨dN,a2,a3⟩
        exact ⟨by omega,⟨a2.1,fun y ax=>a2.2 y (i6 _ ax)⟩,a3⟩
    · rename_i h
      refine ⟨⟨fun h=>nX,fun ⟨dN,a2,a3⟩=>?_⟩,fun h=>nX⟩;rw [f9] at a3;exact absurd (ab.1.2 ⟨by omega,a2.2 x i8,a3.1⟩) h
end
theorem ZJ (w:bx) (f:ao):(decide (ng f 24≤24)&&(decide (nh f≤12)&&gM w f))=h' w f:=by
 have U:=(O8 f w 12 24).1;have ad:=Jd f 24;have aj:ng f 24≤24↔oJ f≤24:=by omega
 unfold h';rw [af4,U];simp only [f9,i7,aj];simp
theorem O' (f:ao):aV d0 134 [f.bW] (.bool f.c0):=by
 have an:=bG;refine aV.bl ai Tryz.func134 C C fun s I=>?_
 rw [ao.cp]
 repeat' (first|(with_reducible first|apply ae.seq|apply b4|apply ae.ret)|refine c5 C ?_|refine ae.cJ ?_|refine aa.nil ?_|refine cD C ?_|refine aa.skip C C C ?_|(fail_if_success refine aa.same true C ?_);(fail_if_success refine aa.same false C ?_);refine aa.hG C C (fun h=>?_) (fun h=>?_))
 all_goals (refine Fin.cG I C (aU.of_eq (ae7 af.bool ?_));clear I;unfold ao.c0;grind)
theorem ZK (w:bx) (c:Int) (hw:w.ps.length≤60):aV d0 132 [fh w,.int .i64 c] (.bool (decide (c≥0)&&decide (c<3+(w.ps.length:Int)))):=by
 have an:=bG;refine aV.bl ai Tryz.func132 C C fun s I=>?_
 unfold fh fl cZ bg;have dn:ad5 .i64 (3+((w.ps.map bg).length:Int))=3+(w.ps.length:Int):=by rw [f0,ee ag ag]
 unfold bg at dn
 repeat' (first|(with_reducible first|apply ae.seq|apply b4|apply ae.ret)|refine c5 C ?_|refine ae.cJ ?_|refine aa.nil ?_|refine cD C ?_|refine aa.skip C C C ?_|(fail_if_success refine aa.same true C ?_);(fail_if_success refine aa.same false C ?_);refine aa.hG C C (fun h=>?_) (fun h=>?_))
 all_goals exact Fin.cG I C (aU.of_eq tH)
theorem ZL (w:bx) (l:List Int) (aE:l.length<bB):aV d0 133 [fh w,bg l] (.bool (l.all (fun c=>decide (c≥0)&&decide (c<(w.owner.length:Int)))&&decide (l.length≤2))):=by
 have an:=bG;refine aV.bl ai Tryz.func133 C C fun s I=>?_
 unfold fh fl cZ bg;refine gy ?_;refine ae.b9 [0,1,2,7,8] C I (σ:=Nat) (fun j=>[(9,.int .i64 (j:Int))]) (fun _=>[]) (fun j=>j≤l.length∧l.all (fun c=>decide (c≥0)&&decide (c<(w.owner.length:Int)))=(l.drop j).all (fun c=>decide (c≥0)&&decide (c<(w.owner.length:Int)))) (fun j=>l.length-j) 0 ⟨g8 _,rfl⟩ (cz C) a1 ?_;rintro j ⟨aH,aq⟩ I
 try simp only at aH aq I ⊢
 refine b8 ?_;refine ae.cond C (fun aw=>?_) (fun aY=>?_);rotate_left
 ·have aY:j=l.length:=by simp at aY;omega
  rw [eG ag,ap3] at aq;rw [aq,f5];refine ef ?_;exact Fin.cG I C (aU.of_eq tH)
 have aw:j<l.length:=by simpa using aw
 obtain ⟨x,ab,bP⟩:=b5 (f:=bb) aw;rw [drop_cons ab,ak'] at aq;unfold bb at bP;refine dL ?_;cases U:decide (x≥0) with
 | false=>
  rw [U,f6,f6] at aq;rw [aq,f6];refine aa.dy 15 C (by simp at U ⊢;omega) ?_;refine e8 ?_;exact bA I
 | true=>
 rw [U,f5] at aq;refine aa.da 15 C (by simp at U ⊢;omega) ?_;refine fK ?_;refine ae.cond C (fun ad=>?_) (fun ad=>?_)
 ·rw [show decide (x<(w.owner.length:Int))=false by simp at ad ⊢;omega,f6] at aq
  rw [aq,f6];refine js ?_;exact bA I
 rw [show decide (x<(w.owner.length:Int))=true by simp at ad ⊢;omega,f5] at aq;refine gr ?_;exact bp.mk (j+1) I ⟨aw,aq⟩ ck a1 qb
theorem ZM:∀ (n:Nat) (f:ao) (fN:Int),f.size≤n→n<bB → -bB≤fN→fN≤bB→aV d0 131 [f.bW,.int .i64 fN] (.int .i64 (ng f fN)):=by
 have an:=bG;intro n
 induction n with
 | zero=>intro f fN h;have:=f.size_eq;omega
 | succ n aX=>
 intro f fN az i' qL mr;have iD:=f.size_eq;have hlen:=ao.q5 f.kids;have NY:=vr f.kids;refine aV.bl ai Tryz.func131 C C fun s I=>?_
 rw [ao.cp];refine gy ?_;refine ae.b9 [1,2] C I (σ:=Nat×Int) (fun q=>[(6,.int .i64 (q.1:Int)),(5,.int .i64 q.2)]) (fun _=>[]) (fun q=>q.1≤f.kids.length∧pD f.kids fN 1=pD (f.kids.drop q.1) fN q.2∧1≤q.2∧q.2+kL (f.kids.drop q.1)≤1+kL f.kids) (fun q=>f.kids.length-q.1) (0,1) ⟨g8 _,rfl,ak6 _,ak6 _⟩ (cz C) a1 ?_;rintro ⟨j,m⟩ ⟨aH,aq,hm,aF⟩ I
 try simp only at aH aq hm aF I ⊢
 have EB:=vr (f.kids.drop j);refine kB ?_;by_cases aw:j<f.kids.length;rotate_left
 ·rw [eG ag,pD] at aq
  refine aa.da 12 C cP ?_;rw [O5,aq];refine bD ?_;exact bA I
 refine aa.dy 12 C cP ?_;obtain ⟨x,ab,bP⟩:=b5 (f:=ao.bW) aw;rw [drop_cons ab,pD] at aq;rw [drop_cons ab,kL] at aF;rw [drop_cons ab,kL] at EB;refine fK ?_;refine ae.cond C (fun ad=>?_) (fun ad=>?_);rotate_left
 ·rw [d9 qu] at aq
  rw [O5,aq];refine ef ?_;exact bA I
 have ad:m≤fN:=by simpa using ad
 rw [g6 ad] at aq;have gm:=ao.iQ (d6 ab);have IC:=EH x;have EJ:=(Jd x (fN-m)).2.2;have adA:=vr (f.kids.drop (j+1));have jo:=aX x (fN-m) ag ag ag ag;rw [ao.cp] at jo bP;rw [show fN-m=ad5 .i64 (fN-m) by rw [ee ag ag]] at jo;refine cB ?_;exact bp.mk (j+1,m+ng x (fN-m)) I ⟨aw,aq,by show 1≤m+ng x (fN-m);omega,by show m+ng x (fN-m)+kL (f.kids.drop (j+1))≤_;omega⟩ (by repeat (first|exact trivial|refine ⟨⟨_,rfl,aO⟩,?_⟩|refine ⟨⟨_,rfl,aU.of_eq (by (first|rw [iN ag]|(rw [ee GF GF,ee ag ag])))⟩,?_⟩)) a1 ph
theorem ZN (f:ao) (a7:f.size<bB):aV d0 85 [f.bW] (.int .i64 (ng f 24)):=by
 have an:=bG;refine aV.bl ai Tryz.func85 C C fun s I=>?_
 have U:=ZM f.size f 24 (g9 _) a7 ag ag;rw [ao.cp] at *;refine cB ?_;exact bA I
theorem ZO:∀ (n:Nat) (f:ao),f.size≤n→n<bB→aV d0 86 [f.bW] (.int .i64 (nh f)):=by
 have an:=bG;intro n
 induction n with
 | zero=>intro f h;have:=f.size_eq;omega
 | succ n aX=>
 intro f az i';have iD:=f.size_eq;have hlen:=ao.q5 f.kids;have Pa:=Jf f;refine aV.bl ai Tryz.func86 C C fun s I=>?_
 rw [ZI] at Pa ⊢;rw [ao.cp];refine gy ?_;refine ae.b9 [1,7,8] C I (σ:=Nat×Int) (fun q=>[(9,.int .i64 (q.1:Int)),(3,.int .i64 q.2)]) (fun _=>[]) (fun q=>q.1≤f.kids.length∧ma 0 f.kids=ma q.2 (f.kids.drop q.1)∧0≤q.2) (fun q=>f.kids.length-q.1) (0,0) ⟨g8 _,rfl,ak6 _⟩ (cz C) a1 ?_;rintro ⟨j,m⟩ ⟨aH,aq,hm⟩ I
 try simp only at aH aq hm I ⊢
 refine b8 ?_;refine ae.cond C (fun aw=>?_) (fun aY=>?_);rotate_left
 ·have aY:j=f.kids.length:=by simp at aY;omega
  rw [eG ag,ma] at aq;rw [aq] at Pa ⊢;refine ef ?_;exact Fin.cG I C (aU.of_eq (by rw [ee ag ag]))
 have aw:j<f.kids.length:=by simpa using aw
 obtain ⟨x,ab,bP⟩:=b5 (f:=ao.bW) aw;rw [drop_cons ab,ma] at aq;have gm:=ao.iQ (d6 ab);have IC:=Jf x;have jo:=aX x ag ag;rw [ao.cp] at jo bP;refine dY ?_;exact bp.mk (j+1,max m (nh x)) I ⟨aw,aq,by show 0≤max m (nh x);omega⟩ (by repeat (first|exact trivial|refine ⟨⟨_,rfl,aO⟩,?_⟩|refine ⟨⟨_,rfl,aU.of_eq (by (first|rw [iN ag]|(congr 1;split<;>omega)))⟩,?_⟩)) a1 ph
theorem ZP (w:bx):∀ (n:Nat) (f:ao),f.size≤n→n<bB→gM w f=true→aV d0 137 [f.bW] (.int .i64 (lB f)):=by
 have an:=bG;intro n
 induction n with
 | zero=>intro x h;have:=x.size_eq;omega
 | succ n aX=>
  intro f az i' av;refine aV.bl ai Tryz.func137 C C fun s I=>?_
  have iD:=f.size_eq;have hlen:=ao.q5 f.kids;have iB:=O' f;rw [p4,f9] at av;rw [ao.cp] at iB ⊢;rw [DG];have aR:f.c0=true→ad5 .i64 (f.arg+1)=f.arg+1:=fun aE=>by
   have az:=av.1;simp only [h9,aE,ag7,f9,i7] at az;exact ee ag ag
  cases aE:f.c0 with
  | true=>
   rw [aE] at iB;refine cB ?_;refine ae.b9 [1,12,13] C I (σ:=Nat) (fun j=>[(14,.int .i64 (j:Int)),(3,.int .i64 (hH (if f.c0 then f.arg+1 else 0) (f.kids.take j)))]) (fun _=>[]) (fun j=>j≤f.kids.length) (fun j=>f.kids.length-j) 0 (g8 _) yP a1 ?_;rintro j aH I;refine b8 ?_;refine ae.cond C (fun aw=>?_) (fun aY=>?_);rotate_left
   ·have aY:j=f.kids.length:=by simp at aY;omega
    subst aY;rw [ae6];refine ef ?_;exact Fin.cG I C (aU.of_eq (by rw [aE]))
   have aw:j<f.kids.length:=by simpa using aw
   obtain ⟨k,aA,eF⟩:=b5 (f:=ao.bW) aw;have hm:=ao.iQ (d6 aA);have aF:=aX k ag ag (l2 av.2 (d6 aA));rw [ao.cp] at eF aF;refine dY ?_;refine bp.mk (j+1) I aw yO a1 ph
  | false=>
   rw [aE] at iB;refine cB ?_;refine ae.b9 [1,12,13] C I (σ:=Nat) (fun j=>[(14,.int .i64 (j:Int)),(3,.int .i64 (hH (if f.c0 then f.arg+1 else 0) (f.kids.take j)))]) (fun _=>[]) (fun j=>j≤f.kids.length) (fun j=>f.kids.length-j) 0 (g8 _) yP a1 ?_;rintro j aH I;refine b8 ?_;refine ae.cond C (fun aw=>?_) (fun aY=>?_);rotate_left
   ·have aY:j=f.kids.length:=by simp at aY;omega
    subst aY;rw [ae6];refine ef ?_;exact Fin.cG I C (aU.of_eq (by rw [aE]))
   have aw:j<f.kids.length:=by simpa using aw
   obtain ⟨k,aA,eF⟩:=b5 (f:=ao.bW) aw;have hm:=ao.iQ (d6 aA);have aF:=aX k ag ag (l2 av.2 (d6 aA));rw [ao.cp] at eF aF;refine dY ?_;refine bp.mk (j+1) I aw yO a1 ph
def xI (w:bx) (f:ao):Bool:=
 if f.op=2 then decide (f.n=0)&&(decide (f.cls≥0)&&decide (f.cls<3+(w.ps.length:Int)))
 else if f.op=3∨f.op=4 then decide (f.cls=0)&&kF f.n
 else decide (f.op=1∨5≤f.op∧f.op≤7)
def vt (w:bx) (f:ao):Bool:=
 decide (f.kids.length=sa f.op)&&(decide (f.arg≥0)&&(decide (f.arg<3)&&(f.path.all (fun c=>decide (c≥0)&&decide (c<(w.owner.length:Int)))&&(decide (f.path.length≤2) &&
  (f.c0||(decide (f.arg=0)&&(decide (f.path.length=0)&&(decide (f.cls=0)&&decide (f.n=0)))))))))
theorem ZQ (w:bx) (f:ao):h9 w f=(xI w f&&vt w f):=by
 rw [af4];unfold h9 xI vt ao.c0 kF;simp only [f9,aj0,i7,ag6];grind
theorem ZR (w:bx) (hw:w.ps.length≤60):∀ (n:Nat) (f:ao),f.size≤n→n<bB→aV d0 87 [fh w,f.bW] (.bool (gM w f)):=by
  have an:=bG;intro n
  induction n with
  | zero=>intro x h;have:=x.size_eq;omega
  | succ n aX=>
    intro f az i';refine aV.bl ai Tryz.func87 C C fun s I=>?_
    have iD:=f.size_eq;have hlen:=ao.q5 f.kids;have ad:=O' f;have aj:=ZL w f.path ag;have a':=ZK w f.cls hw;rw [p4,ZQ];rw [ao.cp] at ad ⊢;unfold fh fl cZ bg at aj a' ⊢;refine ae.seq ?_
    (repeat (first|with_reducible apply b4|refine c5 C ?_|refine ae.cJ ?_|refine aa.nil ?_|refine cD C ?_));refine ae.seq ?_
    (repeat (first|with_reducible apply b4|refine c5 C ?_|refine ae.cJ ?_|refine aa.nil ?_|refine cD C ?_));refine ae.seq (ae.Uy (σ:=Unit) (fun _=>[(2,.br [.aB 1 (w.ps.map fun l => .aB 1 (l.map bb) .bc) .bc,.aB 1 (w.owner.map bb) .bc] 0),(3,.br f.cells 0),(5,.int .i64 (sa f.op))]) (fun _=>[]) (fun _=>xI w f=true) ?_ ?_)
    · repeat' (first|(with_reducible first|apply ae.seq|apply b4|apply fA|apply hj|apply ae.ret|apply ae.skip|apply ae.block)|refine c5 C ?_|refine ae.cJ ?_|refine aa.nil ?_|refine ae.fH C ?_|refine cD C ?_|refine aa.skip C C C ?_|refine aa.eb C C C C C cw ?_|(fail_if_success refine aa.same true C ?_);(fail_if_success refine aa.same false C ?_);refine aa.hG C C (fun h=>?_) (fun h=>?_)|refine ae.cond C (fun h=>?_) (fun h=>?_))
      all_goals first
        | (have key:xI w f=false:=by
            clear aX I ad aj a' az iD
            unfold xI kF
            grind
           exact Fin.cG I C (aU.of_eq (by rw [key];rfl)))
        | (have key:xI w f=true:=by
            clear aX I ad aj a' az iD
            unfold xI kF
            grind
           exact Dt.mk () I key (by repeat (first|exact trivial|refine ⟨⟨_,rfl,aO⟩,?_⟩|refine ⟨⟨_,rfl,aU.of_eq (by (congr 1;clear aX I ad aj a' az iD;unfold sa;grind))⟩,?_⟩)) .nil)
    rintro _ ah I;unfold ao.cells;rw [ah,f5]
    have bf:∀ b,f.c0=b→vt w f=(decide (f.kids.length=sa f.op)&&(decide (f.arg≥0)&&(decide (f.arg<3)&&(f.path.all (fun c=>decide (c≥0)&&decide (c<(w.owner.length:Int)))&&(decide (f.path.length≤2) &&
      (b||(decide (f.arg=0)&&(decide (f.path.length=0)&&(decide (f.cls=0)&&decide (f.n=0)))))))))):=fun b an=>(by unfold vt;rw [an])
    cases aE:f.c0 with
    | true=>
      rw [aE] at ad;have bf:=bf _ aE
      repeat' (first|(with_reducible first|apply ae.seq|apply b4|apply fQ|apply ae.ret|apply ae.skip|apply ae.block)|refine c5 C ?_|refine ae.cJ ?_|refine aa.nil ?_|refine ae.fH C ?_|refine ae.gF C ?_|refine cD C ?_|refine aa.skip C C C ?_|refine aa.eb C C C C C cw ?_|(fail_if_success refine aa.same true C ?_);(fail_if_success refine aa.same false C ?_);refine aa.hG C C (fun h=>?_) (fun h=>?_)|refine ae.cond C (fun h=>?_) (fun h=>?_))
      all_goals first
        | (have key:vt w f=false:=by
            clear aX I ad aj a' az iD
            rw [bf]
            simp only [f0] at *
            grind
           exact Fin.cG I C (aU.of_eq (by rw [key];rfl)))
        | skip
      · have key:vt w f=true:=by
          clear aX I ad aj a' az iD;rw [bf];simp only [f0] at *;grind
        rw [key,f5];clear key;skip;refine ae.b9 [2,3,92,93] C I (σ:=Nat) (fun j=>[(94,.int .i64 (j:Int))]) (fun _=>[]) (fun j=>j≤f.kids.length∧jJ w f.kids=jJ w (f.kids.drop j)) (fun j=>f.kids.length-j) 0 ⟨g8 _,rfl⟩ (cz C) a1 ?_;rintro j ⟨aH,aq⟩ I
        try simp only at aH aq I ⊢
        refine b8 ?_;refine ae.cond C (fun aw=>?_) (fun aY=>?_);rotate_left
        · have aY:j=f.kids.length:=by simp at aY;omega
          rw [eG ag,jJ] at aq;rw [aq];refine ef ?_;exact bA I
        have aw:j<f.kids.length:=by simpa using aw
        obtain ⟨x,ab,bP⟩:=b5 (f:=ao.bW) aw;rw [drop_cons ab,jJ] at aq;have gm:=ao.iQ (d6 ab);have jo:=aX x ag ag;rw [ao.cp] at jo bP;unfold fh fl cZ bg at jo;cases av:gM w x with
        | false=>
          rw [av,f6] at aq;rw [av] at jo;rw [aq];refine dY ?_;exact bA I
        | true=>
          rw [av,f5] at aq;rw [av] at jo;refine dY ?_;exact bp.mk (j+1) I ⟨aw,aq⟩ ck a1 ph
    | false=>
      rw [aE] at ad;have bf:=bf _ aE
      repeat' (first|(with_reducible first|apply ae.seq|apply b4|apply fQ|apply ae.ret|apply ae.skip|apply ae.block)|refine c5 C ?_|refine ae.cJ ?_|refine aa.nil ?_|refine ae.fH C ?_|refine cD C ?_|refine aa.skip C C C ?_|refine aa.eb C C C C C cw ?_|(fail_if_success refine aa.same true C ?_);(fail_if_success refine aa.same false C ?_);refine aa.hG C C (fun h=>?_) (fun h=>?_)|refine ae.cond C (fun h=>?_) (fun h=>?_))
      all_goals first
        | (have key:vt w f=false:=by
            clear aX I ad aj a' az iD
            rw [bf]
            simp only [f0] at *
            grind
           exact Fin.cG I C (aU.of_eq (by rw [key];rfl)))
        | skip
      · have key:vt w f=true:=by
          clear aX I ad aj a' az iD;rw [bf];simp only [f0] at *;grind
        rw [key,f5];clear key;skip;refine ae.b9 [2,3,92,93] C I (σ:=Nat) (fun j=>[(94,.int .i64 (j:Int))]) (fun _=>[]) (fun j=>j≤f.kids.length∧jJ w f.kids=jJ w (f.kids.drop j)) (fun j=>f.kids.length-j) 0 ⟨g8 _,rfl⟩ (cz C) a1 ?_;rintro j ⟨aH,aq⟩ I
        try simp only at aH aq I ⊢
        refine b8 ?_;refine ae.cond C (fun aw=>?_) (fun aY=>?_);rotate_left
        · have aY:j=f.kids.length:=by simp at aY;omega
          rw [eG ag,jJ] at aq;rw [aq];refine ef ?_;exact bA I
        have aw:j<f.kids.length:=by simpa using aw
        obtain ⟨x,ab,bP⟩:=b5 (f:=ao.bW) aw;rw [drop_cons ab,jJ] at aq;have gm:=ao.iQ (d6 ab);have jo:=aX x ag ag;rw [ao.cp] at jo bP;unfold fh fl cZ bg at jo;cases av:gM w x with
        | false=>
          rw [av,f6] at aq;rw [av] at jo;rw [aq];refine dY ?_;exact bA I
        | true=>
          rw [av,f5] at aq;rw [av] at jo;refine dY ?_;exact bp.mk (j+1) I ⟨aw,aq⟩ ck a1 ph
theorem Pb (w:bx) (hw:w.ps.length≤60) (f:ao) (a7:f.size<bB):aV d0 35 [fh w,f.bW] (.bool (h' w f)):=by
 have an:=bG;refine aV.bl ai Tryz.func35 C C fun s I=>?_
 have U:=ZN f a7;have ad:=ZO f.size f (g9 _) a7;have aj:=ZR w hw f.size f (g9 _) a7;rw [← ZJ];rw [ao.cp] at *;unfold fh fl cZ bg at *
 repeat' (first|(with_reducible first|apply ae.seq|apply b4|apply ae.ret)|refine c5 C ?_|refine ae.cJ ?_|refine aa.nil ?_|refine cD C ?_|refine aa.skip C C C ?_|refine aa.eb C C C C C cw ?_|(fail_if_success refine aa.same true C ?_);(fail_if_success refine aa.same false C ?_);refine aa.hG C C (fun h=>?_) (fun h=>?_))
 all_goals (refine Fin.cG I C (aU.of_eq (ae7 af.bool ?_));clear I U ad aj;grind)
def hU (n:Nat) (f:Nat→Bool):List af:=(ah0 n).map fun k => .bool (f k)
theorem nT (n:Nat) (f:Nat→Bool):(hU n f).length=n:=by unfold hU;simp
theorem tY {n:Nat} (f:Nat→Bool) {k:Nat} (h:k<n):(hU n f)[k]? = some (.bool (f k)):=by
 unfold hU;rw [af3,List.getElem?_range h];rfl
theorem BY {n p:Nat} {b:Bool} {g g':Nat→Bool} (h:∀ k,g' k=if k=p then b else g k):(hU n g).set p (.bool b)=hU n g':=by
 refine ar0 fun i=>?_
 rw [as7,nT];by_cases aN:i<n
 ·rw [tY _ aN,tY _ aN,h]
  by_cases e:p=i
  ·subst e;rw [g6 C,g6 aN,g6 C]
  ·rw [d9 e,d9 (fun h=>e h.symm)]
 ·rw [am4 (by rw [nT];omega),am4 (by rw [nT];omega)]
  split
  ·split<;>first|omega|rfl
  ·rfl
theorem Jg (n:Nat):ab' n (af.bool false)=hU n (fun _=>false):=by
 unfold hU;rw [List.map_const',List.length_range]
theorem ZS (n:Nat) (f:Nat→Bool):(hU n f).all e7=true:=by
 unfold hU;rw [List.all_map];simp [Function.comp_def,e7]
theorem Jh {l:List Int} {j:Nat} {p:Int} (h:l[j]? = some p) (k:Int):(l.take (j+1)).contains k=((l.take j).contains k||k==p):=by
 rw [hZ h,an',as5,List.contains_nil,an0]
theorem ZT (w:bx) (hw:gg w) (c:Nat) (aF:c<3+w.ps.length):aV d0 186 [fh w,.int .i64 (c:Int)] (.aB 1 (hU (3+w.ps.length) (xH w c)) .bc):=by
 have an:=bG;refine aV.bl ai Tryz.func186 C C fun s I=>?_
 have tL:=hw.jZ;unfold fh fl cZ bg;have dn:ad5 .i64 (3+((w.ps.map fun l=>af.aB 1 (l.map bb) .bc).length:Int))=((3+w.ps.length:Nat):Int):=by rw [f0,ee ag ag];push_cast;rfl
 refine dF ?_;refine aa.tz ai I (3+w.ps.length) C C C C C C C C C C (ae7 (fun z=>some (af.int .i64 z)) dn) (ae7 (fun z=>some (af.int .i64 z)) dn) (by show _*1≤_;omega) ag (fun b I=>?_);rw [Jg] at I ⊢;refine hx ?_;refine aa.fc ai c C C C C C C C C C C aF ?_;refine aa.jv ai I (hU (3+w.ps.length) fun k=>decide (k=c)) C C C C C C C C C aZ (by rw [nT];show c*1+1≤_;omega) (by rw [pb,ai8];exact BY fun k=>by by_cases e:k=c<;>simp [e]) (fun I=>?_);refine bD ?_;refine ae.b9 [2,5] C I (σ:=Nat×(Nat→Bool)) (fun q=>[(6,.int .i64 (q.1:Int))]) (fun q=>[(.own b,.box 4 (hU (3+w.ps.length) q.2))]) (fun q=>q.1≤c∧xH w c=hp w.ps (q.1-2) q.2) (fun q=>q.1) (c,fun k=>decide (k=c)) ⟨g9 _,rfl⟩ (cz C) a1 ?_;rintro ⟨q,f⟩ ⟨bk,aq⟩ I
 try simp only at bk aq I ⊢
 refine b8 ?_;refine ae.cond C (fun aY=>?_) (fun aw=>?_);rotate_left
 ·have aw:q<3:=by simp at aw;omega
  rw [show q-2=0 by omega,hp] at aq;refine ae.tt I 5 b (n:=3+w.ps.length) (cap:=3+w.ps.length) C .here (by rw [nT]) ag ag (by rw [ag8 (by rw [nT];omega)];exact ZS _ _) (fun I=>?_);rw [ag8 (by rw [nT];omega),aq];refine ef ?_;exact bA I
 have aY:3≤q:=by simp at aY;omega
 obtain ⟨m,rfl⟩:∃ m,q=3+m:=⟨q-3,by omega⟩;obtain ⟨l,aE,pW⟩:=b5 (f:=bg) (show m<w.ps.length by omega);have Ji:=fun p aD=>xG hw aE (p:=p) aD
 have adB:=hw.short l (d6 aE);have ig:ad5 .i64 (((3+m:Nat):Int)-3)=(m:Int):=by rw [ee ag ag];omega
 rw [show 3+m-2=m+1 by omega,hp,d5,aE,ae'] at aq;unfold bg at pW;refine dL ?_;refine aa.idx ai m C C C C C C C C C C ig pW C ?_;refine dL ?_
 refine ae.b9 [2,5,6,27,28] C I (σ:=Nat) (fun j=>[(29,.int .i64 (j:Int))]) (fun j=>[(.own b,.box 4 (hU (3+w.ps.length) fun k=>f k||(f (3+m)&&(l.take j).contains (k:Int))))]) (fun j=>j≤l.length) (fun j=>l.length-j) 0 (g8 _) (cz C) (by
  rw [show (fun k=>f k||(f (3+m)&&(l.take 0).contains (k:Int)))=f from funext fun k=>by rw [al6];simp]
  exact aI.all _) ?_
 rintro j aH I
 try simp only at aH I ⊢
 refine b8 ?_;refine ae.cond C (fun aw=>?_) (fun aY=>?_);rotate_left
 ·have aY:j=l.length:=by simp at aY;omega
  rw [aY,ae6] at I ⊢;refine bD ?_;exact bp.mk (2+m,fun k=>f k||(f (3+m)&&l.contains (k:Int))) I ⟨by show 2+m≤c;omega,by show _=hp w.ps (2+m-2) _;rw [show 2+m-2=m by omega];exact aq⟩ (by repeat (first|exact trivial|refine ⟨⟨_,rfl,aO⟩,?_⟩|refine ⟨⟨_,rfl,aU.of_eq (by (rw [ee ag ag];congr 1;simp only;omega))⟩,?_⟩)) a1 (by show 2+m<3+m;omega)
 have aw:j<l.length:=by simpa using aw
 obtain ⟨p,aD,fa⟩:=b5 (f:=bb) aw;have ZU:=Ji p (d6 aD);unfold bb at fa;obtain ⟨g,av⟩:∃ g,g=fun k=>f k||(f (3+m)&&(l.take j).contains (k:Int)):=⟨_,rfl⟩
 have ZV:g (3+m)=f (3+m):=by rw [av];simp only;cases f (3+m)<;>simp
 have EK:∀ k,(f k||(f (3+m)&&(l.take (j+1)).contains (k:Int)))=if k=p.toNat then (g p.toNat||f (3+m)) else g k:=fun k=>by
  rw [Jh aD,av];simp only;by_cases e:k=p.toNat
  ·subst e
   rw [g6 C,show ((p.toNat:Nat):Int)==p by simp;omega];cases f p.toNat<;>cases f (3+m)<;>simp
  ·rw [d9 e,show ((k:Int)==p)=false by rw [beq_eq_false_iff_ne];omega,an0]
 rw [← av] at I ⊢;refine dL ?_;refine aa.fc ai p.toNat C C C C C C C C C ag ag ?_;obtain ⟨v,au⟩:∃ v,v=g p.toNat:=⟨_,rfl⟩;refine aa.jY ai I C C C C C C aZ C (v := .bool v) (by rw [au,ai8];exact tY g ag) ?_;cases v with
 | true=>
  refine eg ?_;refine aa.fc ai p.toNat C C C C C C C C C ag ag ?_;refine aa.jv ai I (hU (3+w.ps.length) fun k=>f k||(f (3+m)&&(l.take (j+1)).contains (k:Int))) C C C C C C C C C aZ (by rw [nT];show p.toNat*1+1≤_;omega) (by rw [pb,ai8];exact BY fun k=>by rw [EK,← au,al9]) (fun I=>?_);refine gf ?_;exact bp.mk (j+1) I aw ck a1 qb
 | false=>
  refine ep ?_;refine aa.fc ai (3+m) C C C C C C C C C C ag ?_;refine aa.jY ai I C C C C C C aZ C (v := .bool (f (3+m))) (by rw [← ZV,ai8];exact tY g ag) ?_;refine ep ?_;refine aa.fc ai p.toNat C C C C C C C C C ag ag ?_;refine aa.jv ai I (hU (3+w.ps.length) fun k=>f k||(f (3+m)&&(l.take (j+1)).contains (k:Int))) C C C C C C C C C aZ (by rw [nT];show p.toNat*1+1≤_;omega) (by rw [pb,ai8];exact BY fun k=>by rw [EK,← au,ah1]) (fun I=>?_);refine gf ?_;exact bp.mk (j+1) I aw ck a1 qb
theorem ZW (w:bx) (hw:gg w) (a b:Nat) (aR:a<3+w.ps.length) (kP:b<3+w.ps.length):aV d0 144 [fh w,.int .i64 (a:Int),.int .i64 (b:Int)] (.bool (((eV w.ps).getD a 0).testBit b)):=by
 have an:=bG;refine aV.bl ai Tryz.func144 C C fun s I=>?_
 have tL:=hw.jZ;have sq:=ZT w hw a aR;unfold fh fl cZ bg at *;by_cases U:a=b
 ·subst U
  rw [EE hw aR];refine dF ?_;refine aa.dy 11 C ba ?_;refine eg ?_;exact bA I
 have g1:((a:Int)==(b:Int))=false:=by rw [beq_eq_false_iff_ne];omega
 refine dF ?_;refine aa.da 11 C g1 ?_;refine fK ?_;refine ae.cond C (fun ad=>?_) (fun ad=>?_)
 ·have ad:b=0:=by simpa using ad
  subst ad;rw [ZF hw aR];refine gT ?_;exact bA I
 have ad:b≠0:=by simpa using ad
 refine jG ?_;refine ae.cond C (fun aj=>?_) (fun aj=>?_)
 ·have aj:a<3:=by simp at aj;omega
  have:((eV w.ps).getD a 0).testBit b=false:=by
   rw [af5];intro h;have:=EF aj h;omega
  rw [this];refine gT ?_;exact bA I
 have ka:=tY (n:=3+w.ps.length) (xH w a) kP;refine db ?_;rw [← I' hw aR ag];exact bA I
theorem ZX (w:bx) (hw:gg w) (c bC o:Nat) (aF:c<3+w.ps.length) (ah:w.owner[bC]? = some (o:Int)):aV d0 182 [fh w,.int .i64 (c:Int),.int .i64 (bC:Int)] (.bool (((eV w.ps).getD c 0).testBit o)):=by
 have an:=bG;refine aV.bl ai Tryz.func182 C C fun s I=>?_
 have tL:=hw.jZ;have pU:=hw.own _ (d6 ah);have lf:=ZW w hw c o aF ag;have ad:(w.owner.map bb)[bC]? = some (.int .i64 (o:Int)):=by simp [ah,bb]
 unfold fh fl cZ bg at *;by_cases aj:c<3
 ·have:((eV w.ps).getD c 0).testBit o=false:=by
   rw [af5];intro h;have:=EF aj h;omega
  rw [this];have a':decide ((c:Int)≥3)=false:=by simp;omega
  refine cB ?_;refine aM.split 9 C (fun h=>by rw [a'] at h;cases h) (fun _=>?_);refine gU ?_;exact bA I
 have a':decide ((c:Int)≥3)=true:=by simp;omega
 refine cB ?_;refine aM.split 9 C (fun h=>?_) (fun h=>by rw [a'] at h;cases h);refine db ?_;exact bA I
theorem Pc (n:Int):aV d0 183 [.int .i64 n] (.bool (kF n)):=by
 have an:=bG;refine aV.bl ai Tryz.func183 C C fun s I=>?_
 repeat' (first|(with_reducible first|apply ae.seq|apply b4|apply ae.ret)|refine c5 C ?_|refine ae.cJ ?_|refine aa.nil ?_|refine cD C ?_|refine aa.skip C C C ?_|(fail_if_success refine aa.same true C ?_);(fail_if_success refine aa.same false C ?_);refine aa.hG C C (fun h=>?_) (fun h=>?_))
 all_goals (refine Fin.cG I C (aU.of_eq (ae7 af.bool ?_));clear I;unfold kF;grind)
theorem Pd (p:bR) (aD:gC p):aV d0 88 [c9 p] (cZ (hb p)):=by
 have an:=bG;refine aV.bl ai Tryz.func88 C C fun s I=>?_
 have cj:=aD.cls;obtain ⟨xs,dg⟩:∃ xs:Nat→List af,∀ j,xs j=((p.cm.take j).map fM.parents).map bg:=⟨_,fun _=>rfl⟩;have bu:xs 0=[]:=by rw [dg];rfl
 have fg:∀ j,(xs j).length≤p.cm.length:=fun j=>by
  rw [dg,f0,f0];exact List.length_take_le' _ _
 unfold cZ c9 c1 hb;refine gy ?_;refine ae.ih I 23 1 0 fun I=>?_
 refine ae.b9 [1] C I (σ:=Nat×bQ) (fun q=>[(4,.int .i64 (q.1:Int)),(3,.aB 1 (xs q.1) q.2)]) (fun q=>[(q.2,.row 23 1 (xs q.1).length)]) (fun q=>q.1≤p.cm.length) (fun q=>p.cm.length-q.1) (0,.nil) (g8 _) ⟨⟨_,rfl,aO⟩,⟨_,rfl,by rw [bu];exact aU.nil hk⟩,trivial⟩ yJ ?_;rintro ⟨j,own⟩ aH I;simp only at aH I ⊢;refine b8 ?_;refine ae.cond C (fun aw=>?_) (fun aY=>?_);rotate_left
 ·have aY:j=p.cm.length:=by simp at aY;omega
  subst aY;have he:xs p.cm.length=(p.cm.map fM.parents).map bg:=by rw [dg,ae6]
  rw [he];refine ef ?_;exact Fin.cG I C aU.bc
 have aw:j<p.cm.length:=by simpa using aw
 obtain ⟨c,ax,c7⟩:=b5 (f:=jc) aw;have ar:=dg (j+1);rw [hZ ax,ae1,ae1,← dg] at ar;have ar:xs (j+1)=xs j++[.aB 1 (c.parents.map bb) .bc]:=ar;have df:(xs (j+1)).length=(xs j).length+1:=by rw [ar];simp
 have lp:=fg j;have gH:=(aD.each c (d6 ax)).1;unfold jc m4 bg at *;refine dL ?_;refine aa.r0 ai C C C C C C C er C C C (.inl C) (.inr C) C (Hu _) (by simp only [af7,af8,f0];show _*8≤_;omega) Hs (.inl C) ?_;rw [d8];refine ep ?_;refine aa.gn ai I C C C C C C C er C C C C C C C C aZ hy pZ ag (fun b0 I=>?_);refine gf ?_;refine bp.mk (j+1,.own b0) I aw ly AZ yQ
theorem EL (p:bR) (aD:gC p) (ah:(fD 0 p.cm).length<bB):aV d0 36 [c9 p] (fh (bT p)):=by
 have an:=bG;refine aV.bl ai Tryz.func36 C C fun s I=>?_
 have U:=Pd p aD;have cj:=aD.cls;unfold fh fl bT;simp only;unfold c9 c1 at *;unfold cZ at *
 repeat (first|(refine Ud I ?_;clear I;intro I)|refine aa.dK ai I rfl rfl rfl rfl rfl rfl rfl (fun cA I=>?_)|(refine o4 ?_))
 rename_i Bt _;obtain ⟨xm,rfl⟩:∃ x,x=cA:=⟨_,rfl⟩;refine ae.wE I xm [.aB 1 ((hb p).map bg) .bc,.aB 1 [] .nil] .here (.cons aO (.one (aU.nil hk))) (fun I=>?_);refine ae.ih I 3 1 0 fun I=>?_
 refine ae.b9 [1,2,3] C I (σ:=Nat×bQ) (fun q=>[(4,.int .i64 (q.1:Int))]) (fun q=>[(.own xm,.box 62 [.aB 1 ((hb p).map bg) .bc,.aB 1 ((fD 0 (p.cm.take q.1)).map bb) q.2]),(q.2,.row 3 1 (fD 0 (p.cm.take q.1)).length),(.own Bt,.box 62 [.aB 0 [] .nil,.aB 0 [] .nil])])
  (fun q=>q.1≤p.cm.length) (fun q=>p.cm.length-q.1) (0,.nil) (g8 _) (cz C) a1 ?_
 rintro ⟨j,uy⟩ aH I;simp only at aH I ⊢;refine b8 ?_;refine ae.cond C (fun aw=>?_) (fun aY=>?_);rotate_left
 ·have aY:j=p.cm.length:=by simp at aY;omega
  subst aY;rw [ae6] at I ⊢;refine cv I ?_;intro I;exact Fin.cG I (o6 C C (bo.get aZ I) C) (aU.agg (.cons aO (.one aU.bc)))
 have aw:j<p.cm.length:=by simpa using aw
 obtain ⟨c,ax,c7⟩:=b5 (f:=jc) aw;have hE:=(aD.each c (d6 ax)).2.1;have aL:=N1 ax;have hle:=N2 p.cm (j+1);have iz:ad5 .i64 ((j:Int)+3)=(j:Int)+3:=ee ag ag;rw [aL,f8,ag1] at hle;generalize fD 0 (p.cm.take j)=os at I aL hle ⊢;unfold jc m4 bg at c7;refine jG ?_;refine ae.b9 [1,2,3,4] C I (σ:=Nat×bQ) (fun q=>[(5,.int .i64 (q.1:Int))]) (fun q=>[(.own xm,.box 62 [.aB 1 ((hb p).map bg) .bc,.aB 1 ((os++ab' q.1 ((j:Int)+3)).map bb) q.2]),(q.2,.row 3 1 (os++ab' q.1 ((j:Int)+3)).length),(.own Bt,.box 62 [.aB 0 [] .nil,.aB 0 [] .nil])])
  (fun q=>q.1≤c.bn.length) (fun q=>c.bn.length-q.1) (0,uy) (g8 _) (cz C) (by simp only [List.replicate_zero,d7];exact a1) ?_
 rintro ⟨k,b0⟩ aA I;simp only at aA I ⊢;refine dL ?_;refine ae.cond C (fun cl=>?_) (fun dd=>?_);rotate_left
 ·have dd:k=c.bn.length:=by simp at dd;omega
  subst dd;rw [← aL] at I ⊢;refine bD ?_;exact bp.mk (j+1,b0) I aw ck a1 yQ
 have cl:k<c.bn.length:=by simpa using cl
 have hg:(os++ab' k ((j:Int)+3)).length=os.length+k:=by simp
 have Ih:(os++ab' (k+1) ((j:Int)+3)).map bb=(os++ab' k ((j:Int)+3)).map bb++[.int .i64 (ad5 .i64 ((j:Int)+3))]:=by rw [iz,ap4,← af9,ae1];rfl
 have Ii:(os++ab' (k+1) ((j:Int)+3)).length=(os++ab' k ((j:Int)+3)).length+1:=by simp;omega
 refine cv I ?_;intro I;refine aa.gn ai I C C C C C C C er C C C C C C C C aZ ba ki ag (fun eQ I=>?_);refine gK I ?_;intro I;exact bp.mk (k+1,.own eQ) I cl (by repeat (first|exact trivial|refine ⟨⟨_,rfl,aO⟩,?_⟩|refine ⟨⟨_,rfl,aU.of_eq (by (first|rw [iN ag]))⟩,?_⟩)) (by simp only [Ii,Ih];exact a1) DS
def tZ (p:bR) (x:iS):Int:=
 if x.op=5 then (if 0≤x.n∧x.n<(p.dV.length:Int) then p.dV.getD x.n.toNat 0 else -1) else (se p x).getD (-1)
theorem ZY (p:bR) (next:Bool) (x:iS) (size:Int):yI p next x size=(decide ((x.kids.length:Int)=tZ p x)&&(m6 p x size&&(decide (x.op≠18)||next))):=by
 unfold yI;cases az:m6 p x size with
 | false=>simp
 | true=>
  have aA:(se p x==some (x.kids.length:Int))=decide ((x.kids.length:Int)=tZ p x):=by
   rw [af4,am7,i7];unfold tZ;split
   ·rename_i bz
    have aC:0≤x.n∧x.n<(p.dV.length:Int):=by
     unfold m6 at az;rw [d9 ag,d9 ag,d9 ag,d9 ag,g6 bz] at az;simpa using az
    rw [g6 aC];unfold se;rw [g6 bz,al'.injEq];exact eq_comm
   ·cases aA:se p x with
    | none=>simp
    | some k=>simp;exact eq_comm
  rw [aA,f5];cases next<;>cases decide ((x.kids.length:Int)=tZ p x)<;>simp
theorem Pe {Q:List Int→Prop} {g:Int→Int→List Int→Option (List Int)} (isLet:Bool) (size:Int) (bu:0≤size) (av:∀ k s out o,0≤s→Q out→g k s out=some o→Q o) :
    ∀ (ks:List Int) (i:Nat) (out o:List Int),Q out→lD g isLet size i ks out=some o→Q o
  | [],i,out,o,bk,h=>by rw [lD] at h;cases h;exact bk
  | k::r,i,out,o,bk,h=>by
    rw [lD] at h;cases aA:g k (if isLet&&i==1 then size+1 else size) out with
    | none=>rw [aA] at h;cases h
    | some sg=>
      rw [aA] at h;exact Pe isLet size bu av r (i+1) sg o (av k _ out sg (by split<;>omega) bk aA) h
theorem Jj {p:bR} {next:Bool} {Q:List Int→Prop} (Pf:∀ (n:Nat) (size:Int) out,0≤size→Q out→Q (out.set n size)):∀ (f:Nat) (n size:Int) (out o:List Int),0≤size→Q out→visitM p next f n size out=some o→Q o
  | 0,_,_,_,_,_,_,h=>by rw [visitM] at h;cases h
  | f+1,n,size,out,o,bu,bk,h=>by
    rw [visitM] at h;split at h
    · split at h
      · exact Pe _ size bu (fun k s out o ar bk h=>Jj Pf f k s out o ar bk h) _ 0 _ o (Pf _ _ _ bu bk) h
      · cases h
    · cases h
theorem rH {p:bR} {next:Bool} {f:Nat} {n size:Int} {out o:List Int} (bu:0≤size) (h:visitM p next f n size out=some o):o.length=out.length:=
 Jj (Q:=fun l=>l.length=out.length) (fun n s l _ aE=>by rw [ag3];exact aE) f n size out o bu C h
theorem Pg {p:bR} {next:Bool} {f:Nat} {n size:Int} {out o:List Int} (bu:0≤size) (bk:∀ x∈out,-1≤x) (h:visitM p next f n size out=some o):∀ x∈o,-1≤x:=
 Jj (Q:=fun l=>∀ x∈l,(-1:Int)≤x) (fun n s l ar aE x ab=>by
  rcases al0 ab with h|h
  ·exact aE x h
  ·omega) f n size out o bu bk h
theorem ZZ (k:Int):aV d0 139 [.int .i64 k] (.bool (tF k)):=by
 have an:=bG;refine aV.bl ai Tryz.func139 C C fun s I=>?_
 repeat' (first|(with_reducible first|apply ae.seq|apply b4|apply ae.ret)|refine c5 C ?_|refine ae.cJ ?_|refine aa.nil ?_|refine cD C ?_|refine aa.skip C C C ?_|(fail_if_success refine aa.same true C ?_);(fail_if_success refine aa.same false C ?_);refine aa.hG C C (fun h=>?_) (fun h=>?_))
 all_goals (refine Fin.cG I C (aU.of_eq (ae7 af.bool ?_));clear I;unfold tF;grind)
theorem Z0 (p:bR) (aD:gC p) (x:iS) (size:Int):aV d0 185 [c9 p,jd x,.int .i64 size] (.bool (m6 p x size)):=by
 have an:=bG;refine aV.bl ai Tryz.func185 C C fun s I=>?_
 have cj:=aD.cls;have U:=Pc x.n;have dn:ad5 .i64 (3+((p.cm.map jc).length:Int))=3+(p.cm.length:Int):=by rw [f0,ee ag ag]
 unfold c9 c1 jd k3 bg at *
 repeat' (first|(with_reducible first|apply ae.seq|apply b4|apply fQ|apply fA|apply hj|apply ae.ret|apply ae.skip|apply ae.block)|refine c5 C ?_|refine ae.cJ ?_|refine aa.nil ?_|refine cD C ?_|refine aa.skip C C C ?_|refine aa.eb C C C C C cw ?_|(fail_if_success refine aa.same true C ?_);(fail_if_success refine aa.same false C ?_);refine aa.hG C C (fun h=>?_) (fun h=>?_)|refine ae.cond C (fun h=>?_) (fun h=>?_))
 all_goals (refine Fin.cG I C (aU.of_eq (ae7 af.bool ?_));clear I U cj;unfold m6;simp only [f0] at *;first|grind|(rw [d9 (by grind),d9 (by grind),d9 (by grind),d9 (by grind),d9 (by grind)];grind))
theorem Z1 (o:Int):(o=1∨o=2∨o=3∨o=6∨o=18∨o=4∨o=8∨o=17∨o=7∨o=9∨o=11∨o=12∨o=13∨o=14∨o=15∨o=16∨o=10)∨o=5∨(∀ k:Int,(k=1∨k=2∨k=3∨k=6∨k=18∨k=4∨k=8∨k=17∨k=7∨k=9∨k=11∨k=12∨k=13∨k=14∨k=15∨k=16∨k=10∨k=5)→(o==k)=false):=by
 by_cases h:o=5
 ·exact .inr (.inl h)
 ·by_cases ad:(o=1∨o=2∨o=3∨o=6∨o=18∨o=4∨o=8∨o=17∨o=7∨o=9∨o=11∨o=12∨o=13∨o=14∨o=15∨o=16∨o=10)
  ·exact .inl ad
  ·refine .inr (.inr fun k aA=>?_)
   rw [beq_eq_false_iff_ne];omega
theorem Z2 (p:bR) (x:iS):aV d0 184 [c9 p,jd x] (.int .i64 (tZ p x)):=by
 have an:=bG;refine aV.bl ai Tryz.func184 C C fun s I=>?_
 obtain ⟨op,n,kids⟩:=x;unfold jd k3 c9 c1;simp only;rcases Z1 op with h|rfl|h
 ·rcases h with rfl|rfl|rfl|rfl|rfl|rfl|rfl|rfl|rfl|rfl|rfl|rfl|rfl|rfl|rfl|rfl|rfl
  all_goals
   (repeat (first|(with_reducible first|apply ae.seq|apply b4|apply fQ|apply fA|apply hj|apply ae.ret|apply ae.skip|apply ae.block)|refine c5 C ?_|refine ae.fH C ?_|refine ae.gF C ?_ ));exact Fin.cG I C (aU.of_eq C)
 ·unfold tZ
  simp only [ag7];unfold bg;by_cases bu:0≤n;rotate_left
  ·rw [d9 (fun h=>bu h.1)]
   (repeat (first|(with_reducible first|apply ae.seq|apply b4|apply fQ|apply fA|apply hj|apply ae.ret|apply ae.skip|apply ae.block)|refine c5 C ?_|refine ae.fH C ?_|refine ae.gF C ?_ ));refine kB ?_;refine aa.da 33 C cP ?_;refine bD ?_;exact bA I
  by_cases U:n<(p.dV.length:Int);rotate_left
  ·rw [d9 (fun h=>U h.2)]
   (repeat (first|(with_reducible first|apply ae.seq|apply b4|apply fQ|apply fA|apply hj|apply ae.ret|apply ae.skip|apply ae.block)|refine c5 C ?_|refine ae.fH C ?_|refine ae.gF C ?_ ));refine kB ?_;refine aa.dy 33 C cP ?_;refine fK ?_;refine ae.cond C (fun h=>by simp at h;omega) (fun _=>?_);refine bD ?_;exact bA I
  rw [g6 ⟨bu,U⟩];obtain ⟨q,rfl⟩:∃ q:Nat,n=q:=⟨n.toNat,by omega⟩;obtain ⟨y,ax,c7⟩:=b5 (f:=bb) (l:=p.dV) (j:=q) ag;rw [i9,d5,ax,ae'];unfold bb at c7
  (repeat (first|(with_reducible first|apply ae.seq|apply b4|apply fQ|apply fA|apply hj|apply ae.ret|apply ae.skip|apply ae.block)|refine c5 C ?_|refine ae.fH C ?_|refine ae.gF C ?_ ));skip;refine ae.cond C (fun _=>?_) (fun h=>by simp at h;omega);refine bD ?_;exact bA I
 ·have aA:tZ p ⟨op,n,kids⟩ = -1:=by
   have bz:op≠5:=by have:=h 5 ba;rwa [beq_eq_false_iff_ne] at this
   unfold tZ se;simp only;have ne:=fun k aA=>beq_eq_false_iff_ne.1 (h k aA)
   rw [d9 bz,d9 bz];rw [d9 (by have:=ne 1 ba;have:=ne 2 ba;have:=ne 3 ba;have:=ne 6 ba;have:=ne 18 ba;omega)];rw [d9 (by have:=ne 4 ba;have:=ne 8 ba;have:=ne 17 ba;omega)];rw [d9 (by have:=ne 7 ba;have:=ne 9 ba;have:=ne 11 ba;have:=ne 12 ba;have:=ne 13 ba;have:=ne 14 ba;have:=ne 15 ba;have:=ne 16 ba;omega)];rw [d9 (by have:=ne 10 ba;omega)];rfl
  rw [aA]
  (repeat (first|(with_reducible first|apply ae.seq|apply b4|apply fQ|apply fA|apply hj|apply ae.ret|apply ae.skip|apply ae.block)|refine c5 C ?_|refine ae.fH C ?_|refine ae.gF C ?_|refine ae.cond C (fun cY=>absurd (cY.symm.trans (h _ ba)) ba) (fun _=>?_)));exact bA I
end Go.Proofs.YtnafpeohfbglmaaGreat
