import Derived.Test.YtnafpeohfbglmaaGreatVg
set_option linter.unusedVariables false
set_option linter.unusedSimpArgs false
set_option maxRecDepth 100000
set_option maxHeartbeats 4000000
open Bool renaming and_assoc→aC4,and_eq_true→f9,and_false→ak9,and_true→aq9,eq_false_iff→af5,eq_iff_iff→af4,false_and→f6,false_eq_true→af6,false_or→ah1,not_eq_false'→aA2,not_eq_true'→ai0,not_false→aj3,not_not→aA1,not_true→aj',or_assoc→aq8,or_eq_false_iff→ak7,or_eq_true→aj0,or_false→an0,or_true→aq5,true_and→f5,true_or→al9
open Int renaming le_refl→ak6,ofNat_lt→aA0,ofNat→aq4,toNat_natCast→i9
open Go.IntKind renaming bits→am5,wrap→ad5
open List renaming all_cons→ak',all_eq_true→ag6,all_nil→ap3,any_append→ax5,any_cons→ak4,any_eq_false→ak3,any_eq_true→ag5,append_nil→d7,cons_append→ad',cons_beq_cons→as6,cons→at4,contains_append→an',contains_iff_mem→ah8,drop_zero→al7,filter_append→aq3,filter_congr→aA5,filter_cons→aj5,filter_eq_self→az4,filter_nil→at9,foldl_cons→ah4,foldl_nil→av8,getD_eq_getElem?_getD→d5,getElem?_eq_getElem→f7,getElem?_map→af3,getElem?_of_mem→ag2,length_append→f8,length_cons→i0,length_filter_le→aj1,length_map→f0,length_nil→af7,length_range→ap6,length_replicate→ag1,length_take→ae8,map_append→ae1,map_cons→ae2,map_map→at1,map_nil→ah2,mem_append→ae4,mem_cons_of_mem→i6,mem_cons_self→i8,mem_cons→af1,mem_filter→ae3,mem_map→ag0,mem_of_getElem?→d6,mem_range→aj8,mem_singleton→t6,nil_append→d8,range_succ→as2,range→ah0,replicate→ab',take_add_one→an2,take_append_drop→ai7,take_length→ae6
open Nat renaming add_comm→aq1,add_sub_cancel→aq0,and_le_left→av3,eq_of_testBit_eq→al8,le_refl→g9,le_trans→am',lt_of_le_of_lt→aj6,lt_of_lt_of_le→ak8,lt_or_ge→ar6,lt_succ_iff_lt_or_eq→ah5,lt_succ_self→am1,lt_trichotomy→au9,mul_one→ai8,or_lt_two_pow→aj2,pow_le_pow_right→ah7,pow_lt_pow_right→ai4,pow_succ→as',shiftRight_le→ao1,testBit_and→ak2,testBit_lt_two_pow→an1,testBit_or→al5,testBit_two_pow_sub_one→ai1,testBit_two_pow→aj7,testBit_xor→as1,zero_add→af8,zero_le→g8,zero_testBit→ap8
open Option renaming bind_none→ai3,bind_some→aj4,getD_some→ae'
open Go.Sem renaming run_bind→ac'
open Go.Proofs.Tryz renaming prog→d0
namespace Go.Proofs.YtnafpeohfbglmaaGreat
theorem BZ {p:Prop} (h:p:=by repeat (first|exact trivial|refine ⟨⟨_,rfl,aO⟩,?_⟩|refine ⟨⟨_,rfl,aU.of_eq (by (first|rw [iN (by omega)]|(congr 1;(try rw [dn]);show _=max _ _;split<;>omega)|(congr 1;(try rw [dn]);show _=min _ _;split<;>omega)|rw [List.map_append];rfl))⟩,?_⟩)):p:=h
theorem Ph {p:Prop} (h:p:=by repeat (first|exact trivial|refine ⟨⟨_,rfl,aO⟩,?_⟩|refine ⟨⟨_,rfl,aU.of_eq (by (first|rw [iN (by omega)]|(show _=k9 (bI.test _ _ _);rw [k9,Ds,zk])))⟩,?_⟩)):p:=h
theorem Pj {p:Prop} (h:p:=by simp only [eE,eu,d',ao.cells];exact a1):p:=h
theorem EM {p:Prop} (h:p:=by repeat (first|exact trivial|refine ⟨⟨_,rfl,aO⟩,?_⟩|refine ⟨⟨_,rfl,aU.of_eq (by (first|rw [iN (by omega)]|rw [oK]))⟩,?_⟩)):p:=h
theorem xJ {p:Prop} (h:p:=by simp only [eE,eu,d'];exact a1):p:=h
theorem Pk {p:Prop} (h:p:=by simp only [j1];exact a1):p:=h
theorem B0 {p:Prop} (h:p:=by simp only [List.length_append,List.length_cons,List.length_nil];exact aI.all _):p:=h
theorem Pl {p:Prop} (h:p:=by show aI _ [(_,.row _ _ (out++[x]).length)] _;rw [List.length_append];exact a1):p:=h
theorem zl {p:Prop} (h:p:=by show vs.length-(j+1)<vs.length-j;omega):p:=h
theorem qn {p:Prop} (h:p:=by show M.length-(j+1)<M.length-j;omega):p:=h
theorem sI {p:Prop} (h:p:=by show l.length-(i+1)<l.length-i;omega):p:=h
theorem zm {p:Prop} (h:p:=by show L.length-(j+1)<L.length-j;omega):p:=h
theorem EN {p:Prop} (h:p:=by show L.length-(k+1)<L.length-k;omega):p:=h
def cK (b:Nat) (cs:List af):a8:=[(.own b,.box 3 cs)]
def Z3 (b:Nat) (dZ:List af) (r:Option (List Int)) (o:ey) (K:a8):Prop:=
 match r with
 | some out=>o = .ret (.bool true)∧K=cK b (out.map bb++dZ)
 | none=>o = .ret (.bool false)∧∃ cs,K=cK b cs
theorem Z4 {out:List Int} {dZ:List af} {n:Nat} (h:n<out.length) (v:Int):eS (n*1) [.int .i64 v] (out.map bb++dZ)=(out.set n v).map bb++dZ:=by
 rw [ai8,pb,List.set_append_left _ _ (by rw [f0];exact h),List.map_set];rfl
theorem Jk {out:List Int} {dZ:List af} {n:Nat} (h:n<out.length):(out.map bb++dZ)[n*1]? = some (.int .i64 (out.getD n 0)):=by
 rw [ai8,List.getElem?_append_left (by rw [f0];exact h),af3,d5,f7 h];rfl
theorem Jl {p:bR} {n:Int} {out:List Int} (h:pg p n out=true):0≤n∧n<(p.nodes.length:Int)∧out.getD n.toNat 0<0:=by
 unfold pg at h;simp only [f9,i7] at h;omega
theorem Jm {p:bR} {next:Bool} {n size:Int} {out:List Int} (h:pg p n out=false):∀ f,visitM p next f n size out=none
 | 0=>rfl
 | f+1=>by rw [visitM,h];rfl
theorem Pm (p:bR) (aD:gC p) (n3:p.nodes.length≤120) (next:Bool) (b:Nat) (dZ:List af) (cap:Nat):∀ (f:Nat),f≤12→∀ (n size:Int),0≤size→size+f≤15→∀ (out:List Int),out.length=p.nodes.length →
  bF d0 138 [c9 p,.int .i64 n,.int .i64 size,.int .i64 ((13-f:Nat):Int),.bool next,eh b p.nodes.length cap] (cK b (out.map bb++dZ)) (Z3 b dZ (visitM p next f n size out)):=by
 have an:=bG;intro f
 induction f with
 | zero=>
  intro _ n size k0 kV out gz;refine bF.bl ai Tryz.func138 C C fun s I=>?_
  rw [visitM];unfold c9 c1 cK;unfold cK at I;refine dF ?_;by_cases bu:n<0
  ·refine aa.dy 18 C (by simpa using bu) ?_
   refine eg ?_;exact Fin.bt (K:=cK b _) I C aO (by simp only [cK];exact a1) ⟨rfl,_,rfl⟩
  refine aa.da 18 C (by simpa using bu) ?_;refine ep ?_;by_cases U:n<(p.nodes.length:Int);rotate_left
  ·refine aa.dy 25 C cP ?_
   refine eg ?_;exact Fin.bt (K:=cK b _) I C aO (by simp only [cK];exact a1) ⟨rfl,_,rfl⟩
  refine aa.da 25 C cP ?_;refine ep ?_;refine aa.fc ai n.toNat C C C C C C C C C ag ag ?_;refine aa.jY ai I C C C C C C aZ C (Jk ag) ?_;refine ep ?_;by_cases ad:out.getD n.toNat 0≥0
  ·refine aa.dy 32 C qu ?_
   refine eg ?_;exact Fin.bt (K:=cK b _) I C aO (by simp only [cK];exact a1) ⟨rfl,_,rfl⟩
  refine aa.da 32 C qu ?_;refine eg ?_;exact Fin.bt (K:=cK b _) I C aO (by simp only [cK];exact a1) ⟨rfl,_,rfl⟩
 | succ f aX=>
 intro a7 n size k0 kV out gz;refine bF.bl ai Tryz.func138 C C fun s I=>?_
 unfold c9 c1 cK;unfold cK at I;refine dF ?_;by_cases bu:n<0
 ·refine aa.dy 18 C (by simpa using bu) ?_
  rw [Jm (by rw [af5];intro h;have:=Jl h;omega)];refine eg ?_;exact Fin.bt (K:=cK b _) I C aO (by simp only [cK];exact a1) ⟨rfl,_,rfl⟩
 refine aa.da 18 C (by simpa using bu) ?_;refine ep ?_;by_cases U:n<(p.nodes.length:Int);rotate_left
 ·refine aa.dy 25 C cP ?_
  rw [Jm (by rw [af5];intro h;have:=Jl h;omega)];refine eg ?_;exact Fin.bt (K:=cK b _) I C aO (by simp only [cK];exact a1) ⟨rfl,_,rfl⟩
 refine aa.da 25 C cP ?_;refine ep ?_;refine aa.fc ai n.toNat C C C C C C C C C ag ag ?_;refine aa.jY ai I C C C C C C aZ C (Jk ag) ?_;refine ep ?_;by_cases ad:out.getD n.toNat 0≥0
 ·refine aa.dy 32 C qu ?_
  rw [Jm (by rw [af5];intro h;have:=Jl h;omega)];refine eg ?_;exact Fin.bt (K:=cK b _) I C aO (by simp only [cK];exact a1) ⟨rfl,_,rfl⟩
 refine aa.da 32 C qu ?_;have dz:pg p n out=true:=by
  unfold pg;simp only [f9,i7];omega
 rw [visitM,g6 dz];obtain ⟨q,rfl⟩:∃ q:Nat,n=q:=⟨n.toNat,by omega⟩;rw [i9];obtain ⟨x,ab,bP⟩:=b5 (f:=jd) (l:=p.nodes) (j:=q) ag;have Iv:p.nodes.getD q default=x:=by rw [d5,ab];rfl
 rw [Iv,ZY];have qc:=aD.kids x (d6 ab);refine fK ?_;refine ae.cond C (fun h=>by simp at h;omega) (fun _=>?_);refine dL ?_;refine aa.fc ai q C C C C C C C C C C ag ?_;refine aa.jv ai I ((out.set q size).map bb++dZ) C C C C C C C C C aZ (by rw [f8,f0];show q*1+1≤_;omega) (Z4 ag size) (fun I=>?_);have jb:(out.set q size).length=p.nodes.length:=by rw [List.length_set];exact gz
 generalize out.set q size=zn at I jb ⊢;have aj:=Z2 p x;have a':=Z0 p aD x size;unfold c9 c1 jd k3 bg at aj a';unfold jd k3 bg at bP;refine dY ?_;by_cases g1:(x.kids.length:Int)=tZ p x;rotate_left
 ·refine aM.split 52 C (fun _=>?_) (fun h=>absurd h (by simpa using g1))
  rw [H1 g1,f6,d9 ba];refine gU ?_;exact Fin.bt (K:=cK b _) I C aO (by simp only [cK];exact a1) ⟨rfl,_,rfl⟩
 refine aM.split 52 C (fun h=>absurd g1 fV) (fun _=>?_);rw [g7 g1,f5];cases g2:m6 p x size with
 | false=>
  rw [g2] at a';rw [f6,d9 ba];refine cB ?_;exact Fin.bt (K:=cK b _) I C aO (by simp only [cK];exact a1) ⟨rfl,_,rfl⟩
 | true=>
 rw [g2] at a';rw [f5];refine db ?_;cases next with
 | true=>
  rw [aq5];by_cases xK:x.op=18
  ·refine aM.split 63 C (fun _=>?_) (fun h=>absurd xK fV)
   rw [g6 C];refine cB ?_;refine ae.b9 [1,2,3,4,5,6,13] C I (σ:=Nat×List Int) (fun q=>[(14,.int .i64 (q.1:Int))]) (fun q=>cK b (q.2.map bb++dZ)) (fun q=>q.1≤x.kids.length∧q.2.length=p.nodes.length∧lD (visitM p true f) (decide (x.op=9)) size 0 x.kids zn=lD (visitM p true f) (decide (x.op=9)) size q.1 (x.kids.drop q.1) q.2) (fun q=>x.kids.length-q.1) (0,zn) ⟨g8 _,jb,rfl⟩ (cz C) (by simp only [cK];exact a1) ?_;rintro ⟨j,b0⟩ ⟨aH,rX,aq⟩ I
   try simp only at aH rX aq I ⊢
   unfold cK at I ⊢;refine b8 ?_;refine ae.cond C (fun aw=>?_) (fun aY=>?_);rotate_left
   ·have aY:j=x.kids.length:=by simp at aY;omega
    rw [eG ag,lD] at aq;rw [aq];refine ef ?_;exact Fin.bt (K:=cK b _) I C aO (by simp only [cK];exact a1) ⟨rfl,rfl⟩
   have aw:j<x.kids.length:=by simpa using aw
   obtain ⟨k,aA,eF⟩:=b5 (f:=bb) aw;rw [drop_cons aA,lD] at aq;unfold bb at eF;have cX:=fun s U ad=>aX ag k s U ad b0 rX
   have ay:((13-f:Nat):Int)=ad5 .i64 (((13-(f+1):Nat):Int)+1):=by rw [ee ag ag];omega
   rw [ay] at cX;unfold c9 c1 cK at cX;refine bD ?_;by_cases kl:x.op=9
   ·refine aa.dy 79 C (by simpa using kl) ?_
    refine fK ?_;refine ae.cond C (fun U=>?_) (fun U=>?_)
    ·have U:j=1:=by simp at U;omega
     rw [show (decide (x.op=9)&&j==1)=true by simp [kl,U],g6 C] at aq;have cX:=cX (size+1) ag ag;have B1:size+1=ad5 .i64 (size+1):=by rw [ee ag ag]
     rw [B1] at cX aq;refine o5 ?_;cases au:visitM p true f k (ad5 .i64 (size+1)) b0 with
     | none=>
      rw [au] at cX;rw [au,ai3] at aq;rw [aq];skip;refine aM.kG rfl rfl rfl rfl rfl rfl cX I (aI.all _) ?_ (fun _ _ ⟨h,_⟩ _=>by cases h);rintro _ _ ⟨⟨⟩,cs,rfl⟩ I;rw [d7] at I ⊢;unfold cK at I ⊢;refine gU ?_;exact Fin.bt (K:=cK b _) I C aO (by simp only [cK];exact a1) ⟨rfl,_,rfl⟩
     | some eQ=>
      have pX:=rH ag au;rw [au] at cX;rw [au,aj4] at aq;skip;refine aM.kG rfl rfl rfl rfl rfl rfl cX I (aI.all _) ?_ (fun _ _ ⟨h,_⟩ _=>by cases h);rintro _ _ ⟨⟨⟩,rfl⟩ I;rw [d7] at I ⊢;unfold cK at I ⊢;refine kh ?_;exact bp.mk (j+1,eQ) I ⟨aw,by show eQ.length=_;omega,aq⟩ ck (by simp only [cK];exact a1) qj
    ·have U:j≠1:=by simp at U;omega
     rw [show (decide (x.op=9)&&j==1)=false by simp [U],d9 ba] at aq;have cX:=cX size ag ag;refine o5 ?_;cases au:visitM p true f k size b0 with
     | none=>
      rw [au] at cX;rw [au,ai3] at aq;rw [aq];skip;refine aM.kG rfl rfl rfl rfl rfl rfl cX I (aI.all _) ?_ (fun _ _ ⟨h,_⟩ _=>by cases h);rintro _ _ ⟨⟨⟩,cs,rfl⟩ I;rw [d7] at I ⊢;unfold cK at I ⊢;refine gU ?_;exact Fin.bt (K:=cK b _) I C aO (by simp only [cK];exact a1) ⟨rfl,_,rfl⟩
     | some eQ=>
      have pX:=rH ag au;rw [au] at cX;rw [au,aj4] at aq;skip;refine aM.kG rfl rfl rfl rfl rfl rfl cX I (aI.all _) ?_ (fun _ _ ⟨h,_⟩ _=>by cases h);rintro _ _ ⟨⟨⟩,rfl⟩ I;rw [d7] at I ⊢;unfold cK at I ⊢;refine kh ?_;exact bp.mk (j+1,eQ) I ⟨aw,by show eQ.length=_;omega,aq⟩ ck (by simp only [cK];exact a1) qj
   ·refine aa.da 79 C (by simpa using kl) ?_
    rw [show (decide (x.op=9)&&j==1)=false by simp [kl],d9 ba] at aq;have cX:=cX size ag ag;refine o5 ?_;cases au:visitM p true f k size b0 with
    | none=>
     rw [au] at cX;rw [au,ai3] at aq;rw [aq];skip;refine aM.kG rfl rfl rfl rfl rfl rfl cX I (aI.all _) ?_ (fun _ _ ⟨h,_⟩ _=>by cases h);rintro _ _ ⟨⟨⟩,cs,rfl⟩ I;rw [d7] at I ⊢;unfold cK at I ⊢;refine gU ?_;exact Fin.bt (K:=cK b _) I C aO (by simp only [cK];exact a1) ⟨rfl,_,rfl⟩
    | some eQ=>
     have pX:=rH ag au;rw [au] at cX;rw [au,aj4] at aq;skip;refine aM.kG rfl rfl rfl rfl rfl rfl cX I (aI.all _) ?_ (fun _ _ ⟨h,_⟩ _=>by cases h);rintro _ _ ⟨⟨⟩,rfl⟩ I;rw [d7] at I ⊢;unfold cK at I ⊢;refine kh ?_;exact bp.mk (j+1,eQ) I ⟨aw,by show eQ.length=_;omega,aq⟩ ck (by simp only [cK];exact a1) qj
  ·refine aM.split 63 C (fun h=>absurd fV xK) (fun _=>?_)
   rw [g6 C];refine cB ?_;refine ae.b9 [1,2,3,4,5,6,13] C I (σ:=Nat×List Int) (fun q=>[(14,.int .i64 (q.1:Int))]) (fun q=>cK b (q.2.map bb++dZ)) (fun q=>q.1≤x.kids.length∧q.2.length=p.nodes.length∧lD (visitM p true f) (decide (x.op=9)) size 0 x.kids zn=lD (visitM p true f) (decide (x.op=9)) size q.1 (x.kids.drop q.1) q.2) (fun q=>x.kids.length-q.1) (0,zn) ⟨g8 _,jb,rfl⟩ (cz C) (by simp only [cK];exact a1) ?_;rintro ⟨j,b0⟩ ⟨aH,rX,aq⟩ I
   try simp only at aH rX aq I ⊢
   unfold cK at I ⊢;refine b8 ?_;refine ae.cond C (fun aw=>?_) (fun aY=>?_);rotate_left
   ·have aY:j=x.kids.length:=by simp at aY;omega
    rw [eG ag,lD] at aq;rw [aq];refine ef ?_;exact Fin.bt (K:=cK b _) I C aO (by simp only [cK];exact a1) ⟨rfl,rfl⟩
   have aw:j<x.kids.length:=by simpa using aw
   obtain ⟨k,aA,eF⟩:=b5 (f:=bb) aw;rw [drop_cons aA,lD] at aq;unfold bb at eF;have cX:=fun s U ad=>aX ag k s U ad b0 rX
   have ay:((13-f:Nat):Int)=ad5 .i64 (((13-(f+1):Nat):Int)+1):=by rw [ee ag ag];omega
   rw [ay] at cX;unfold c9 c1 cK at cX;refine bD ?_;by_cases kl:x.op=9
   ·refine aa.dy 79 C (by simpa using kl) ?_
    refine fK ?_;refine ae.cond C (fun U=>?_) (fun U=>?_)
    ·have U:j=1:=by simp at U;omega
     rw [show (decide (x.op=9)&&j==1)=true by simp [kl,U],g6 C] at aq;have cX:=cX (size+1) ag ag;have B1:size+1=ad5 .i64 (size+1):=by rw [ee ag ag]
     rw [B1] at cX aq;refine o5 ?_;cases au:visitM p true f k (ad5 .i64 (size+1)) b0 with
     | none=>
      rw [au] at cX;rw [au,ai3] at aq;rw [aq];skip;refine aM.kG rfl rfl rfl rfl rfl rfl cX I (aI.all _) ?_ (fun _ _ ⟨h,_⟩ _=>by cases h);rintro _ _ ⟨⟨⟩,cs,rfl⟩ I;rw [d7] at I ⊢;unfold cK at I ⊢;refine gU ?_;exact Fin.bt (K:=cK b _) I C aO (by simp only [cK];exact a1) ⟨rfl,_,rfl⟩
     | some eQ=>
      have pX:=rH ag au;rw [au] at cX;rw [au,aj4] at aq;skip;refine aM.kG rfl rfl rfl rfl rfl rfl cX I (aI.all _) ?_ (fun _ _ ⟨h,_⟩ _=>by cases h);rintro _ _ ⟨⟨⟩,rfl⟩ I;rw [d7] at I ⊢;unfold cK at I ⊢;refine kh ?_;exact bp.mk (j+1,eQ) I ⟨aw,by show eQ.length=_;omega,aq⟩ ck (by simp only [cK];exact a1) qj
    ·have U:j≠1:=by simp at U;omega
     rw [show (decide (x.op=9)&&j==1)=false by simp [U],d9 ba] at aq;have cX:=cX size ag ag;refine o5 ?_;cases au:visitM p true f k size b0 with
     | none=>
      rw [au] at cX;rw [au,ai3] at aq;rw [aq];skip;refine aM.kG rfl rfl rfl rfl rfl rfl cX I (aI.all _) ?_ (fun _ _ ⟨h,_⟩ _=>by cases h);rintro _ _ ⟨⟨⟩,cs,rfl⟩ I;rw [d7] at I ⊢;unfold cK at I ⊢;refine gU ?_;exact Fin.bt (K:=cK b _) I C aO (by simp only [cK];exact a1) ⟨rfl,_,rfl⟩
     | some eQ=>
      have pX:=rH ag au;rw [au] at cX;rw [au,aj4] at aq;skip;refine aM.kG rfl rfl rfl rfl rfl rfl cX I (aI.all _) ?_ (fun _ _ ⟨h,_⟩ _=>by cases h);rintro _ _ ⟨⟨⟩,rfl⟩ I;rw [d7] at I ⊢;unfold cK at I ⊢;refine kh ?_;exact bp.mk (j+1,eQ) I ⟨aw,by show eQ.length=_;omega,aq⟩ ck (by simp only [cK];exact a1) qj
   ·refine aa.da 79 C (by simpa using kl) ?_
    rw [show (decide (x.op=9)&&j==1)=false by simp [kl],d9 ba] at aq;have cX:=cX size ag ag;refine o5 ?_;cases au:visitM p true f k size b0 with
    | none=>
     rw [au] at cX;rw [au,ai3] at aq;rw [aq];skip;refine aM.kG rfl rfl rfl rfl rfl rfl cX I (aI.all _) ?_ (fun _ _ ⟨h,_⟩ _=>by cases h);rintro _ _ ⟨⟨⟩,cs,rfl⟩ I;rw [d7] at I ⊢;unfold cK at I ⊢;refine gU ?_;exact Fin.bt (K:=cK b _) I C aO (by simp only [cK];exact a1) ⟨rfl,_,rfl⟩
    | some eQ=>
     have pX:=rH ag au;rw [au] at cX;rw [au,aj4] at aq;skip;refine aM.kG rfl rfl rfl rfl rfl rfl cX I (aI.all _) ?_ (fun _ _ ⟨h,_⟩ _=>by cases h);rintro _ _ ⟨⟨⟩,rfl⟩ I;rw [d7] at I ⊢;unfold cK at I ⊢;refine kh ?_;exact bp.mk (j+1,eQ) I ⟨aw,by show eQ.length=_;omega,aq⟩ ck (by simp only [cK];exact a1) qj
 | false=>
  by_cases xK:x.op=18
  ·rw [show (decide (x.op≠18)||false)=false by simp [xK],d9 ba]
   refine aM.split 63 C (fun _=>?_) (fun h=>absurd xK fV);refine gU ?_;exact Fin.bt (K:=cK b _) I C aO (by simp only [cK];exact a1) ⟨rfl,_,rfl⟩
  ·rw [show (decide (x.op≠18)||false)=true by simp [xK]]
   refine aM.split 63 C (fun h=>absurd fV xK) (fun _=>?_);rw [g6 C];refine cB ?_;refine ae.b9 [1,2,3,4,5,6,13] C I (σ:=Nat×List Int) (fun q=>[(14,.int .i64 (q.1:Int))]) (fun q=>cK b (q.2.map bb++dZ)) (fun q=>q.1≤x.kids.length∧q.2.length=p.nodes.length∧lD (visitM p false f) (decide (x.op=9)) size 0 x.kids zn=lD (visitM p false f) (decide (x.op=9)) size q.1 (x.kids.drop q.1) q.2) (fun q=>x.kids.length-q.1) (0,zn) ⟨g8 _,jb,rfl⟩ (cz C) (by simp only [cK];exact a1) ?_;rintro ⟨j,b0⟩ ⟨aH,rX,aq⟩ I
   try simp only at aH rX aq I ⊢
   unfold cK at I ⊢;refine b8 ?_;refine ae.cond C (fun aw=>?_) (fun aY=>?_);rotate_left
   ·have aY:j=x.kids.length:=by simp at aY;omega
    rw [eG ag,lD] at aq;rw [aq];refine ef ?_;exact Fin.bt (K:=cK b _) I C aO (by simp only [cK];exact a1) ⟨rfl,rfl⟩
   have aw:j<x.kids.length:=by simpa using aw
   obtain ⟨k,aA,eF⟩:=b5 (f:=bb) aw;rw [drop_cons aA,lD] at aq;unfold bb at eF;have cX:=fun s U ad=>aX ag k s U ad b0 rX
   have ay:((13-f:Nat):Int)=ad5 .i64 (((13-(f+1):Nat):Int)+1):=by rw [ee ag ag];omega
   rw [ay] at cX;unfold c9 c1 cK at cX;refine bD ?_;by_cases kl:x.op=9
   ·refine aa.dy 79 C (by simpa using kl) ?_
    refine fK ?_;refine ae.cond C (fun U=>?_) (fun U=>?_)
    ·have U:j=1:=by simp at U;omega
     rw [show (decide (x.op=9)&&j==1)=true by simp [kl,U],g6 C] at aq;have cX:=cX (size+1) ag ag;have B1:size+1=ad5 .i64 (size+1):=by rw [ee ag ag]
     rw [B1] at cX aq;refine o5 ?_;cases au:visitM p false f k (ad5 .i64 (size+1)) b0 with
     | none=>
      rw [au] at cX;rw [au,ai3] at aq;rw [aq];skip;refine aM.kG rfl rfl rfl rfl rfl rfl cX I (aI.all _) ?_ (fun _ _ ⟨h,_⟩ _=>by cases h);rintro _ _ ⟨⟨⟩,cs,rfl⟩ I;rw [d7] at I ⊢;unfold cK at I ⊢;refine gU ?_;exact Fin.bt (K:=cK b _) I C aO (by simp only [cK];exact a1) ⟨rfl,_,rfl⟩
     | some eQ=>
      have pX:=rH ag au;rw [au] at cX;rw [au,aj4] at aq;skip;refine aM.kG rfl rfl rfl rfl rfl rfl cX I (aI.all _) ?_ (fun _ _ ⟨h,_⟩ _=>by cases h);rintro _ _ ⟨⟨⟩,rfl⟩ I;rw [d7] at I ⊢;unfold cK at I ⊢;refine kh ?_;exact bp.mk (j+1,eQ) I ⟨aw,by show eQ.length=_;omega,aq⟩ ck (by simp only [cK];exact a1) qj
    ·have U:j≠1:=by simp at U;omega
     rw [show (decide (x.op=9)&&j==1)=false by simp [U],d9 ba] at aq;have cX:=cX size ag ag;refine o5 ?_;cases au:visitM p false f k size b0 with
     | none=>
      rw [au] at cX;rw [au,ai3] at aq;rw [aq];skip;refine aM.kG rfl rfl rfl rfl rfl rfl cX I (aI.all _) ?_ (fun _ _ ⟨h,_⟩ _=>by cases h);rintro _ _ ⟨⟨⟩,cs,rfl⟩ I;rw [d7] at I ⊢;unfold cK at I ⊢;refine gU ?_;exact Fin.bt (K:=cK b _) I C aO (by simp only [cK];exact a1) ⟨rfl,_,rfl⟩
     | some eQ=>
      have pX:=rH ag au;rw [au] at cX;rw [au,aj4] at aq;skip;refine aM.kG rfl rfl rfl rfl rfl rfl cX I (aI.all _) ?_ (fun _ _ ⟨h,_⟩ _=>by cases h);rintro _ _ ⟨⟨⟩,rfl⟩ I;rw [d7] at I ⊢;unfold cK at I ⊢;refine kh ?_;exact bp.mk (j+1,eQ) I ⟨aw,by show eQ.length=_;omega,aq⟩ ck (by simp only [cK];exact a1) qj
   ·refine aa.da 79 C (by simpa using kl) ?_
    rw [show (decide (x.op=9)&&j==1)=false by simp [kl],d9 ba] at aq;have cX:=cX size ag ag;refine o5 ?_;cases au:visitM p false f k size b0 with
    | none=>
     rw [au] at cX;rw [au,ai3] at aq;rw [aq];skip;refine aM.kG rfl rfl rfl rfl rfl rfl cX I (aI.all _) ?_ (fun _ _ ⟨h,_⟩ _=>by cases h);rintro _ _ ⟨⟨⟩,cs,rfl⟩ I;rw [d7] at I ⊢;unfold cK at I ⊢;refine gU ?_;exact Fin.bt (K:=cK b _) I C aO (by simp only [cK];exact a1) ⟨rfl,_,rfl⟩
    | some eQ=>
     have pX:=rH ag au;rw [au] at cX;rw [au,aj4] at aq;skip;refine aM.kG rfl rfl rfl rfl rfl rfl cX I (aI.all _) ?_ (fun _ _ ⟨h,_⟩ _=>by cases h);rintro _ _ ⟨⟨⟩,rfl⟩ I;rw [d7] at I ⊢;unfold cK at I ⊢;refine kh ?_;exact bp.mk (j+1,eQ) I ⟨aw,by show eQ.length=_;omega,aq⟩ ck (by simp only [cK];exact a1) qj
theorem Z5 {g:List (List Int)} {i:Nat} {l:List Int} (aE:g[i]? = some l) (h:3<l.length):mA g=false:=by
 rw [af5];intro av;have:=(AJ av).par i l aE;omega
theorem Z6 (p:bR) (aD:gC p):aV d0 136 [c9 p] (.bool (pf p)):=by
 have an:=bG;have e4:pf p=(decide (p.cm.length≤10)&&((lC 0 p.cm==some p.bn)&&(mA (hb p)&&q' p 0 p.cm))):=rfl;have cj:=aD.cls;have jX:(hb p).length=p.cm.length:=f0 _;have dw:=Pd p aD;have Pn:=UJ (hb p) ag;have fw:=fun h=>EL p aD h
 refine aV.bl ai Tryz.func136 C C fun s I=>?_
 unfold c9 c1 fh fl cZ bg at *;refine b8 ?_;refine ae.cond C (fun h=>?_) (fun h=>?_)
 ·rw [show decide (p.cm.length≤10)=false by simp at h ⊢;omega,f6] at e4
  refine gT ?_;exact Fin.cG I C (aU.of_eq (ae7 af.bool e4.symm))
 have Po:p.cm.length≤10:=by simp at h;omega
 rw [g7 Po,f5] at e4;refine jG ?_;refine ae.b9 [1] C I (σ:=Nat×Int) (fun q=>[(4,.int .i64 (q.1:Int)),(3,.int .i64 q.2)]) (fun _=>[]) (fun q=>q.1≤p.cm.length∧lC 0 p.cm=lC q.2 (p.cm.drop q.1)∧0≤q.2∧q.2≤4*q.1) (fun q=>p.cm.length-q.1) (0,0) ⟨g8 _,rfl,ak6 _,by omega⟩ (cz C) a1 ?_;rintro ⟨j,n⟩ ⟨aH,aq,yz,Il⟩ I
 try simp only at aH aq yz Il I ⊢
 refine b8 ?_;refine ae.cond C (fun aw=>?_) (fun aY=>?_)
 ·have aw:j<p.cm.length:=by simpa using aw
  obtain ⟨c,aF,m2⟩:=b5 (f:=jc) aw;obtain ⟨cd,b1,ek⟩:=aD.each c (d6 aF);rw [drop_cons aF,lC] at aq;unfold jc m4 bg at m2;refine dL ?_;by_cases a':c.bn.length≤4;rotate_left
  ·rw [d9 a'] at aq
   rw [aq,show (none==some p.bn)=false from rfl,f6] at e4;refine aa.dy 36 C cP ?_;refine e8 ?_;exact Fin.cG I C (aU.of_eq (ae7 af.bool e4.symm))
  rw [g6 a'] at aq;refine aa.da 36 C cP ?_;refine dL ?_;refine ae.cond C (fun aj=>?_) (fun aj=>?_)
  ·have aj:3<c.parents.length:=by simp at aj;omega
   rw [Z5 (g:=hb p) (i:=j) (l:=c.parents) (by unfold hb;rw [af3,aF];rfl) aj,f6,ak9] at e4;refine js ?_;exact Fin.cG I C (aU.of_eq (ae7 af.bool e4.symm))
  refine jG ?_;refine ae.b9 [1,4,5] C I (σ:=Nat) (fun k=>[(6,.int .i64 (k:Int)),(3,.int .i64 (n+k))]) (fun _=>[]) (fun k=>k≤c.bn.length∧nG n c.bn=nG (n+k) (c.bn.drop k)) (fun k=>c.bn.length-k) 0 ⟨g8 _,by rw [al7];congr 1;omega⟩ (by repeat (first|exact trivial|refine ⟨⟨_,rfl,aO⟩,?_⟩|refine ⟨⟨_,rfl,aU.of_eq (by (congr 1;omega))⟩,?_⟩)) a1 ?_;rintro k ⟨aA,bf⟩ I
  try simp only at aA bf I ⊢
  refine b8 ?_;refine ae.cond C (fun cl=>?_) (fun dd=>?_)
  ·have cl:k<c.bn.length:=by simpa using cl
   obtain ⟨y,ax,c7⟩:=b5 (f:=bb) cl;rw [drop_cons ax,nG] at bf;unfold bb at c7;refine dL ?_;refine ae.cond C (fun cE=>?_) (fun he=>?_)
   ·have cE:y≠n+k:=by simpa using cE
    rw [d9 cE] at bf;rw [aq,bf,ai3,show (none==some p.bn)=false from rfl,f6] at e4;refine js ?_;exact Fin.cG I C (aU.of_eq (ae7 af.bool e4.symm))
   have he:y=n+k:=by simpa using he
   rw [g6 he] at bf;refine gr ?_;exact bp.mk (k+1) I ⟨cl,by rw [bf];congr 1;push_cast;omega⟩ (by repeat (first|exact trivial|refine ⟨⟨_,rfl,aO⟩,?_⟩|refine ⟨⟨_,rfl,aU.of_eq (by (first|rw [iN ag]|(rw [ee ag ag];congr 1;push_cast;omega)))⟩,?_⟩)) a1 DS
  ·have dd:k=c.bn.length:=by simp at dd;omega
   rw [eG ag,nG] at bf;rw [bf,aj4] at aq;refine bD ?_;exact bp.mk (j+1,n+k) I ⟨aw,aq,by show 0≤n+(k:Int);omega,by show n+(k:Int)≤4*((j+1:Nat):Int);omega⟩ ck a1 yQ
 have aY:j=p.cm.length:=by simp at aY;omega
 rw [eG ag,lC] at aq;rw [aq] at e4;have gz:=(Jc (i:=0) aq).1;have fw:=fw ag;refine db ?_;by_cases ar:n=p.bn;rotate_left
 ·rw [show (some n==some p.bn)=false by simpa using ar,f6] at e4
  refine aa.dy 66 C (by simpa using ar) ?_;refine eg ?_;exact Fin.cG I C (aU.of_eq (ae7 af.bool e4.symm))
 refine aa.da 66 C (by simpa using ar) ?_;rw [show (some n==some p.bn)=true by simpa using ar,f5] at e4;cases kY:mA (hb p) with
 | false=>
  rw [kY,f6] at e4;rw [kY] at Pn;refine cB ?_;exact Fin.cG I C (aU.of_eq (ae7 af.bool e4.symm))
 | true=>
 rw [kY,f5] at e4;rw [kY] at Pn;have mq:=AJ kY;have l':=My Po aq kY;subst ar;have Pp:=fun c aF=>US (hb p) mq c aF
 have Pq:=fun c bC o U ad=>ZX (bT p) l' c bC o U ad
 have Z7:=fun i h s=>ZH aq l' (i:=i) h s
 have hIn:=fun n=>Pc n
 have pj:(bT p).ps.length=p.cm.length:=jX;have pU:((bT p).owner.length:Int)=p.bn:=by
  have:(bT p).owner=fD 0 p.cm:=rfl;rw [this];omega
 unfold fh fl cZ bg at Pq;unfold cZ bg at Pp;refine dY ?_;refine ae.b9 [1,3,7,8] C I (σ:=Nat) (fun j=>[(9,.int .i64 (j:Int))]) (fun _=>[]) (fun j=>j≤p.cm.length∧q' p 0 p.cm=q' p j (p.cm.drop j)) (fun j=>p.cm.length-j) 0 ⟨g8 _,rfl⟩ (cz C) a1 ?_;rintro i ⟨aN,cL⟩ I
 try simp only at aN cL I ⊢
 refine b8 ?_;refine ae.cond C (fun aw=>?_) (fun aY=>?_);rotate_left
 ·have aY:i=p.cm.length:=by simp at aY;omega
  rw [eG ag,q'] at cL;rw [cL] at e4;refine ef ?_;exact Fin.cG I C (aU.of_eq (ae7 af.bool e4.symm))
 have aw:i<p.cm.length:=by simpa using aw
 obtain ⟨c,aF,m2⟩:=b5 (f:=jc) aw;obtain ⟨cd,b1,ek⟩:=aD.each c (d6 aF);rw [drop_cons aF,q',Hn] at cL;have y9:=Pp (3+i) ag;have iz:(((3+i:Nat):Int))=ad5 .i64 ((i:Int)+3):=by rw [ee ag ag];omega
 have hle:yH p (i+3)=(fC (hb p) (2+(hb p).length)).getD (3+i) []:=by unfold yH;rw [aq1 3 i]
 rw [← hle,iz] at y9;unfold jc m4 bg at m2;cases he:(yH p (i+3)).isEmpty with
 | true=>
  rw [he] at y9;rw [he,aj',f6,f6] at cL;rw [cL] at e4;refine cB ?_;exact Fin.cG I C (aU.of_eq (ae7 af.bool e4.symm))
 | false=>
 rw [he] at y9;rw [he,aj3,f5] at cL;refine cB ?_;refine ae.b9 [1,3,7,8,9,10,13] C I (σ:=Nat) (fun k=>[(14,.int .i64 (k:Int))]) (fun _=>[]) (fun k=>k≤c.inits.length∧q9 (pe p i) [] c.inits=q9 (pe p i) ((c.inits.take k).map iR.slot) (c.inits.drop k)) (fun k=>c.inits.length-k) 0 ⟨g8 _,rfl⟩ (cz C) a1 ?_;rintro k ⟨aA,bf⟩ I
 try simp only at aA bf I ⊢
 refine b8 ?_;refine ae.cond C (fun cl=>?_) (fun dd=>?_);rotate_left
 ·have dd:k=c.inits.length:=by simp at dd;omega
  rw [eG ag,q9] at bf;rw [bf,f5] at cL;refine bD ?_;exact bp.mk (i+1) I ⟨aw,cL⟩ ck a1 (by show p.cm.length-(i+1)<p.cm.length-i;omega)
 have cl:k<c.inits.length:=by simpa using cl
 obtain ⟨x,ab,bP⟩:=b5 (f:=wP) cl;rw [drop_cons ab,q9,Z7 i aw] at bf;unfold wP at bP;refine qZ ?_;by_cases g1:x.slot<0
 ·refine aM.split 108 C (fun _=>?_) (fun h=>absurd h (by simpa using g1))
  rw [show decide (x.slot≥0)=false by simp;omega,f6,f6] at bf;rw [bf] at cL;rw [f6] at cL;rw [cL] at e4;refine gU ?_;exact Fin.cG I C (aU.of_eq (ae7 af.bool e4.symm))
 refine aM.split 108 C (fun h=>absurd fV g1) (fun _=>?_);rw [show decide (x.slot≥0)=true by simp;omega,f5] at bf;refine db ?_;by_cases g2:x.slot<p.bn;rotate_left
 ·refine aM.split 117 C (fun _=>?_) (fun h=>absurd h cP)
  rw [show decide (x.slot<p.bn)=false by simp;omega,f6,f6] at bf;rw [bf] at cL;rw [f6] at cL;rw [cL] at e4;refine gU ?_;exact Fin.cG I C (aU.of_eq (ae7 af.bool e4.symm))
 refine aM.split 117 C (fun h=>absurd h cP) (fun _=>?_);rw [g7 g2,f5] at bf;obtain ⟨bC,df⟩:∃ bC:Nat,x.slot=bC:=⟨x.slot.toNat,by omega⟩;obtain ⟨o,ah⟩:∃ o,(bT p).owner[bC]? = some o:=⟨_,f7 ag⟩;have lP:=l'.own o (d6 ah);obtain ⟨Jn,rfl⟩:∃ q:Nat,o=q:=⟨o.toNat,by omega⟩;have tT:=Pq (3+i) bC Jn ag ah;rw [show (bT p).owner.getD x.slot.toNat 0=(Jn:Int) by rw [df,i9,d5,ah];rfl,i9] at bf;rw [iz,← df] at tT;cases g3:((eV (bT p).ps).getD (3+i) 0).testBit Jn with
 | false=>
  rw [g3,f6] at bf;rw [g3] at tT;refine cB ?_;rw [bf] at cL;rw [f6] at cL;rw [cL] at e4;skip;exact Fin.cG I C (aU.of_eq (ae7 af.bool e4.symm))
 | true=>
 rw [g3,f5] at bf;rw [g3] at tT;have fo:=hIn x.n;cases g4:kF x.n with
 | false=>
  rw [g4,f6,ak9] at bf;rw [g4] at fo;refine cB ?_;rw [bf] at cL;rw [f6] at cL;rw [cL] at e4;skip;exact Fin.cG I C (aU.of_eq (ae7 af.bool e4.symm))
 | true=>
 rw [g4,f5] at bf;rw [g4] at fo;refine cB ?_;refine ae.b9 [1,3,7,8,9,10,13,14] C I (σ:=Nat) (fun j=>[(15,.int .i64 (j:Int))]) (fun _=>[]) (fun j=>j≤k∧((c.inits.take j).map iR.slot).contains x.slot=false) (fun j=>k-j) 0 ⟨g8 _,by simp⟩ (cz C) a1 ?_;rintro j ⟨aH,cc⟩ I
 try simp only at aH cc I ⊢
 refine b8 ?_;refine ae.cond C (fun jW=>?_) (fun kE=>?_);rotate_left
 ·have kE:j=k:=by simp at kE;omega
  subst kE;rw [cc,aj3,f5] at bf;have hl:(c.inits.take (j+1)).map iR.slot=(c.inits.take j).map iR.slot++[x.slot]:=by rw [hZ ab,ae1];rfl
  rw [← hl] at bf;refine bD ?_;exact bp.mk (j+1) I ⟨cl,bf⟩ ck a1 (by show c.inits.length-(j+1)<c.inits.length-j;omega)
 have jW:j<k:=by simpa using jW
 obtain ⟨y,ax,c7⟩:=b5 (f:=wP) (l:=c.inits) (j:=j) ag;unfold wP at c7;refine qZ ?_;refine ae.cond C (fun zX=>?_) (fun Jo=>?_)
 ·have zX:y.slot=x.slot:=by simpa using zX
  have:((c.inits.take k).map iR.slot).contains x.slot=true:=by
   rw [ah8];refine ag0.2 ⟨y,?_,zX⟩;exact d6 (show (c.inits.take k)[j]? = some y by rw [List.getElem?_take,g6 jW,ax])
  rw [this,aj',f6] at bf;rw [bf] at cL;rw [f6] at cL;rw [cL] at e4;refine js ?_;exact Fin.cG I C (aU.of_eq (ae7 af.bool e4.symm))
 have Jo:y.slot≠x.slot:=by simpa using Jo
 refine gr ?_;exact bp.mk (j+1) I ⟨jW,by rw [hZ ax,ae1,an',cc,ah1];simpa using Jo.symm⟩ ck a1 (by show k-(j+1)<k-j;omega)
def Ps (p:bR) (o:ey) (_K:a8):Prop:=∃ v,o = .ret (.cu [v,.bool (gu p)])
theorem Z8 (p:bR) (aD:gC p):bF d0 93 [c9 p] [] (Ps p):=by
 have an:=bG;have gQ:gu p=(nI p).isSome:=rfl;have cc:nI p=if pf p&&ra p then (nH p p.methods (ab' p.nodes.length (-1))).bind fun out=>(visitM p false 12 p.main 0 out).bind fun out=>if out.contains (-1) then none else some out else none:=rfl
 have bM:ra p=(decide (p.dV.length≤8)&&(decide (p.methods.length≤16)&&(decide (p.nodes.length≥1)&&(decide (p.nodes.length≤120)&&p.dV.all fun n=>decide (n≥1)&&decide (n≤3))))):=rfl;have e4:=Z6 p aD;have fw:=fun h=>EL p aD h
 refine bF.bl ai Tryz.func93 C C fun s I=>?_
 unfold Ps;unfold c9 c1 fh fl cZ bg at *;cases B2:pf p with
 | false=>
  rw [B2] at e4;rw [B2,f6,d9 ba] at cc;rw [cc] at gQ;refine cB ?_;exact Fin.bt (K:=[]) I C aO .nil ⟨_,by rw [gQ];rfl⟩
 | true=>
 rw [B2] at e4;rw [B2,f5] at cc;refine cB ?_;by_cases g1:p.dV.length≤8;rotate_left
 ·rw [H1 g1,f6] at bM
  rw [bM,d9 ba] at cc;rw [cc] at gQ;refine aa.dy 20 C cP ?_;refine eg ?_;exact Fin.bt (K:=[]) I C aO .nil ⟨_,by rw [gQ];rfl⟩
 refine aa.da 20 C cP ?_;rw [g7 g1,f5] at bM;refine ep ?_;by_cases g2:p.methods.length≤16;rotate_left
 ·rw [H1 g2,f6] at bM
  rw [bM,d9 ba] at cc;rw [cc] at gQ;refine aa.dy 26 C cP ?_;refine eg ?_;exact Fin.bt (K:=[]) I C aO .nil ⟨_,by rw [gQ];rfl⟩
 refine aa.da 26 C cP ?_;rw [g7 g2,f5] at bM;refine ep ?_;by_cases g3:p.nodes.length≥1;rotate_left
 ·rw [H1 g3,f6] at bM
  rw [bM,d9 ba] at cc;rw [cc] at gQ;refine aa.dy 32 C cP ?_;refine eg ?_;exact Fin.bt (K:=[]) I C aO .nil ⟨_,by rw [gQ];rfl⟩
 refine aa.da 32 C cP ?_;rw [g7 g3,f5] at bM;refine fK ?_;refine ae.cond C (fun h=>?_) (fun h=>?_)
 ·rw [show decide (p.nodes.length≤120)=false by simp at h ⊢;omega,f6] at bM
  rw [bM,d9 ba] at cc;rw [cc] at gQ;refine gT ?_;exact Fin.bt (K:=[]) I C aO .nil ⟨_,by rw [gQ];rfl⟩
 have g4:p.nodes.length≤120:=by simp at h;omega
 rw [g7 g4,f5] at bM;refine jG ?_;refine ae.b9 [1] C I (σ:=Nat) (fun j=>[(4,.int .i64 (j:Int))]) (fun _=>[]) (fun j=>j≤p.dV.length∧(p.dV.all fun n=>decide (n≥1)&&decide (n≤3))=(p.dV.drop j).all fun n=>decide (n≥1)&&decide (n≤3)) (fun j=>p.dV.length-j) 0 ⟨g8 _,rfl⟩ (cz C) a1 ?_;rintro j ⟨aH,aq⟩ I
 try simp only at aH aq I ⊢
 refine b8 ?_;refine ae.cond C (fun aw=>?_) (fun aY=>?_)
 ·have aw:j<p.dV.length:=by simpa using aw
  obtain ⟨x,ab,bP⟩:=b5 (f:=bb) aw;rw [drop_cons ab,ak'] at aq;unfold bb at bP;refine dL ?_;by_cases U:x≥1;rotate_left
  ·rw [H1 U,f6,f6] at aq
   rw [bM,aq,d9 ba] at cc;rw [cc] at gQ;refine aa.dy 51 C cP ?_;refine e8 ?_;exact Fin.bt (K:=[]) I C aO .nil ⟨_,by rw [gQ];rfl⟩
  refine aa.da 51 C cP ?_;rw [g7 U,f5] at aq;refine dL ?_;refine ae.cond C (fun aj=>?_) (fun aj=>?_)
  ·rw [show decide (x≤3)=false by simp at aj ⊢;omega,f6] at aq
   rw [bM,aq,d9 ba] at cc;rw [cc] at gQ;refine js ?_;exact Fin.bt (K:=[]) I C aO .nil ⟨_,by rw [gQ];rfl⟩
  rw [show decide (x≤3)=true by simp at aj ⊢;omega,f5] at aq;refine gr ?_;exact bp.mk (j+1) I ⟨aw,aq⟩ ck a1 (by show p.dV.length-(j+1)<p.dV.length-j;omega)
 have aY:j=p.dV.length:=by simp at aY;omega
 rw [eG ag,ap3] at aq;rw [aq] at bM;rw [bM,g6 C] at cc;have Z9:∀ n∈p.dV,1≤n∧n≤3:=fun n az=>by
  have:=ag6.1 aq n az;simpa using this
 clear bM e4;refine bD ?_;refine ae.b9 [1] C I (σ:=Nat×rk) (fun q=>[(6,.int .i64 (q.1:Int)),(5,k7 q.2 (ab' q.1 (-1)))]) (fun q=>j1 q.2 (ab' q.1 (-1))) (fun q=>q.1≤p.nodes.length∧sm q.2 (ab' q.1 (-1))) (fun q=>p.nodes.length-q.1) (0,none) ⟨g8 _,rfl⟩ (cz C) .nil ?_;rintro ⟨lF,bC⟩ ⟨za,df⟩ I
 try simp only at za df I ⊢
 refine b8 ?_;refine ae.cond C (fun aw=>?_) (fun dd=>?_)
 ·have aw:lF<p.nodes.length:=by simpa using aw
  cases bC with
  | none=>
   have Z':lF=0:=by
    have:ab' lF (-1:Int)=[]:=df;simpa using this
   subst Z';dsimp only [k7,j1] at I ⊢;refine dL ?_;refine aa.Dq ai I C C C C C C C er C C C C C C C (by show 1*8≤_;omega) (fun aW ch cs' cF dj fe I=>?_);refine gf ?_
   obtain ⟨dZ,rfl⟩:∃ dZ,cs'=(ab' 1 (-1)).map bb++dZ:=⟨cs'.drop 1,by
    conv=>lhs;rw [← ai7 1 cs',fe]
    rfl⟩
   exact bp.mk (1,some (aW,ch,dZ)) I ⟨by show 1≤p.nodes.length;omega,by show (ab' 1 (-1)).length+dZ.length=ch;rw [← cF];simp;omega⟩ (by repeat (first|exact trivial|refine ⟨⟨_,rfl,aO⟩,?_⟩|refine ⟨⟨_,rfl,aU.of_eq (by (first|rfl|rw [ee ag ag];rfl))⟩,?_⟩)) Pk (by show p.nodes.length-1<p.nodes.length-0;omega)
  | some t=>
   obtain ⟨b,cap,dZ⟩:=t;have df:(ab' lF (-1:Int)).length+dZ.length=cap:=df;rw [ag1] at df;dsimp only [k7,j1] at I ⊢;rw [ag1];refine dL ?_;refine aa.Dr ai I C C C C C C C er C C C C aZ cP ag HI C C C (by show _*8≤_;omega) ag (fun aW ch cs' cF dj fe I=>?_);refine gf ?_;rw [List.take_left' ba] at fe
   obtain ⟨nc,rfl⟩:∃ nc,cs'=(ab' (lF+1) (-1)).map bb++nc:=⟨cs'.drop (lF+1),by
    conv=>lhs;rw [← ai7 (lF+1) cs',fe]
    rw [List.replicate_succ',ae1];rfl⟩
   exact bp.mk (lF+1,some (aW,ch,nc)) I ⟨aw,by show (ab' (lF+1) (-1)).length+nc.length=ch;rw [← cF];simp⟩ (by repeat (first|exact trivial|refine ⟨⟨_,rfl,aO⟩,?_⟩|refine ⟨⟨_,rfl,aU.of_eq (by (first|rw [iN ag]|(simp only [k7,ag1])))⟩,?_⟩)) Pk (by show p.nodes.length-(lF+1)<p.nodes.length-lF;omega)
 have dd:lF=p.nodes.length:=by simp at dd;omega
 subst dd;cases bC with
 | none=>
  have:ab' p.nodes.length (-1:Int)=[]:=df;have:=ae7 List.length this;simp at this;rw [this] at g3;simp at g3
 | some t=>
 obtain ⟨b,cap,dZ⟩:=t;have l':=Hp B2;have gz:(fD 0 p.cm).length<bB:=by
  have:=l'.bn;have e:(bT p).owner=fD 0 p.cm:=rfl;rw [e] at this;omega
 have fw:=fw gz;have k1:=fun f h=>Pb (bT p) l'.jZ f h
 have zo:=fun f h=>ZP (bT p) f.size f (g9 _) h
 have aT:=fun k=>ZZ k
 unfold fh fl cZ bg at k1;dsimp only [k7,j1] at I ⊢;rw [ag1];refine dY ?_;refine ae.b9 [1,5,7] C I (σ:=Nat×List Int) (fun q=>[(8,.int .i64 (q.1:Int))]) (fun q=>cK b (q.2.map bb++dZ)) (fun q=>q.1≤p.methods.length∧nH p p.methods (ab' p.nodes.length (-1))=nH p (p.methods.drop q.1) q.2∧q.2.length=p.nodes.length∧∀ x∈q.2,(-1:Int)≤x) (fun q=>p.methods.length-q.1) (0,ab' p.nodes.length (-1)) ⟨g8 _,rfl,ag1,fun x ab=>by rw [(List.mem_replicate.1 ab).2];exact ak6 _⟩ (cz C) (by simp only [cK];exact a1) ?_;rintro ⟨i,out⟩ ⟨aN,eJ,jb,Jp⟩ I
 try simp only at aN eJ jb Jp I ⊢
 unfold cK at I ⊢;refine b8 ?_;refine ae.cond C (fun aw=>?_) (fun kE=>?_)
 ·have aw:i<p.methods.length:=by simpa using aw
  obtain ⟨m,hm,CZ⟩:=b5 (f:=nF) aw;have vu:=aD.facts m (d6 hm);rw [drop_cons hm,nH] at eJ;have cI:tE p m=(decide (m.kind≥1)&&(decide (m.kind≤4)&&(decide (m.gen≥0)&&(decide (m.gen<(p.dV.length:Int))&&(h' (bT p) m.fact&&decide (lB m.fact≤p.dV.getD m.gen.toNat 0)))))):=rfl;have k1:=k1 m.fact ag;have zo:=zo m.fact ag;have aT:=aT m.kind;rw [ao.cp] at k1 zo;unfold ao.cells at k1 zo;unfold nF pa at CZ;refine dY ?_;by_cases cF:m.kind≥1;rotate_left
  ·refine aM.split 86 C (fun _=>?_) (fun h=>absurd h cP)
   rw [H1 cF,f6] at cI;rw [cI,d9 ba] at eJ;rw [eJ,ai3] at cc;rw [cc] at gQ;refine gU ?_;exact Fin.bt (K:=[]) I C aO .nil ⟨_,by rw [gQ];rfl⟩
  refine aM.split 86 C (fun h=>absurd h cP) (fun _=>?_);rw [g7 cF,f5] at cI;refine jH ?_;by_cases dj:m.kind≤4;rotate_left
  ·refine aM.split 91 C (fun _=>?_) (fun h=>absurd h cP)
   rw [H1 dj,f6] at cI;rw [cI,d9 ba] at eJ;rw [eJ,ai3] at cc;rw [cc] at gQ;refine gU ?_;exact Fin.bt (K:=[]) I C aO .nil ⟨_,by rw [gQ];rfl⟩
  refine aM.split 91 C (fun h=>absurd h cP) (fun _=>?_);rw [g7 dj,f5] at cI;refine jH ?_;by_cases fe:m.gen≥0;rotate_left
  ·refine aM.split 96 C (fun _=>?_) (fun h=>absurd h cP)
   rw [H1 fe,f6] at cI;rw [cI,d9 ba] at eJ;rw [eJ,ai3] at cc;rw [cc] at gQ;refine gU ?_;exact Fin.bt (K:=[]) I C aO .nil ⟨_,by rw [gQ];rfl⟩
  refine aM.split 96 C (fun h=>absurd h cP) (fun _=>?_);rw [g7 fe,f5] at cI;refine jH ?_;by_cases eI:m.gen<(p.dV.length:Int);rotate_left
  ·refine aM.split 104 C (fun _=>?_) (fun h=>absurd h cP)
   rw [H1 eI,f6] at cI;rw [cI,d9 ba] at eJ;rw [eJ,ai3] at cc;rw [cc] at gQ;refine gU ?_;exact Fin.bt (K:=[]) I C aO .nil ⟨_,by rw [gQ];rfl⟩
  refine aM.split 104 C (fun h=>absurd h cP) (fun _=>?_);rw [g7 eI,f5] at cI;cases jP:h' (bT p) m.fact with
  | false=>
   rw [jP] at k1;rw [jP,f6] at cI;refine cB ?_;rw [cI,d9 ba] at eJ;rw [eJ,ai3] at cc;rw [cc] at gQ;skip;exact Fin.bt (K:=[]) I C aO .nil ⟨_,by rw [gQ];rfl⟩
  | true=>
  rw [jP] at k1;rw [jP,f5] at cI;have zo:=zo (uX _ _ _ _ jP);obtain ⟨q,bk⟩:∃ q:Nat,m.gen=q:=⟨m.gen.toNat,by omega⟩;obtain ⟨y,ax,c7⟩:=b5 (f:=bb) (l:=p.dV) (j:=q) ag;have A7:p.dV.getD m.gen.toNat 0=y:=by rw [bk,i9,d5,ax];rfl
  have adC:=Z9 y (d6 ax);rw [A7] at cI eJ;unfold bb at c7;rw [bk] at CZ ⊢;refine db ?_;refine ae.cond C (fun jl=>?_) (fun jl=>?_)
  ·have jl:¬ lB m.fact≤y:=by simp at jl;omega
   rw [H1 jl] at cI;rw [cI,d9 ba] at eJ;rw [eJ,ai3] at cc;rw [cc] at gQ;refine js ?_;exact Fin.bt (K:=[]) I C aO .nil ⟨_,by rw [gQ];rfl⟩
  have jl:lB m.fact≤y:=by simp at jl;omega
  rw [g7 jl] at cI;rw [cI,g6 C] at eJ;have rI:=Pm p aD g4 (tF m.kind) b dZ cap 12 (g9 _) m.node y ag ag out jb;unfold c9 c1 bg cK at rI;cases au:visitM p (tF m.kind) 12 m.node y out with
  | none=>
   rw [au] at rI;rw [au,ai3] at eJ;rw [eJ,ai3] at cc;rw [cc] at gQ;refine o5 ?_;refine aM.kG rfl rfl rfl rfl rfl rfl rI I (aI.all _) ?_ (fun _ _ ⟨h,_⟩ _=>by cases h);rintro _ _ ⟨⟨⟩,cs,rfl⟩ I;rw [d7] at I ⊢;unfold cK at I ⊢;refine gU ?_;skip;exact Fin.bt (K:=[]) I C aO .nil ⟨_,by rw [gQ];rfl⟩
  | some eQ=>
   have pX:=rH ag au;have Jq:=Pg ag Jp au;rw [au] at rI;rw [au,aj4] at eJ;refine o5 ?_;refine aM.kG rfl rfl rfl rfl rfl rfl rI I (aI.all _) ?_ (fun _ _ ⟨h,_⟩ _=>by cases h);rintro _ _ ⟨⟨⟩,rfl⟩ I;rw [d7] at I ⊢;unfold cK at I ⊢;refine kh ?_;exact bp.mk (i+1,eQ) I ⟨aw,eJ,by show eQ.length=_;omega,Jq⟩ ck (by simp only [cK];exact a1) (by show p.methods.length-(i+1)<p.methods.length-i;omega)
 have kE:i=p.methods.length:=by simp at kE;omega
 rw [eG ag,nH] at eJ;rw [eJ,aj4] at cc;have rI:=Pm p aD g4 false b dZ cap 12 (g9 _) p.main 0 (ak6 _) ag out jb;unfold c9 c1 bg cK at rI;refine bD ?_;cases au:visitM p false 12 p.main 0 out with
 | none=>
  rw [au] at rI;rw [au,ai3] at cc;rw [cc] at gQ;refine aa.b7 rfl rfl rfl rfl rfl rI I (aI.all _) ?_ (fun _ _ ⟨h,_⟩ _=>by cases h);rintro _ _ ⟨⟨⟩,cs,rfl⟩ I;rw [d7] at I ⊢;unfold cK at I ⊢;refine eg ?_;exact Fin.bt (K:=[]) I C aO .nil ⟨_,by rw [gQ];rfl⟩
 | some eQ=>
 have pX:=rH (ak6 _) au;have Jq:=Pg (ak6 _) Jp au;rw [au] at rI;rw [au,aj4] at cc;refine aa.b7 rfl rfl rfl rfl rfl rI I (aI.all _) ?_ (fun _ _ ⟨h,_⟩ _=>by cases h);rintro _ _ ⟨⟨⟩,rfl⟩ I;rw [d7] at I ⊢;unfold cK at I ⊢;refine bD ?_;refine ae.b9 [1,5] C I (σ:=Nat) (fun j=>[(10,.int .i64 (j:Int))]) (fun _=>cK b (eQ.map bb++dZ)) (fun j=>j≤p.nodes.length∧(eQ.take j).contains (-1)=false) (fun j=>p.nodes.length-j) 0 ⟨g8 _,rfl⟩ (cz C) (by simp only [cK];exact a1) ?_;rintro vw ⟨IL,h8⟩ I
 try simp only at IL h8 I ⊢
 unfold cK at I ⊢;refine kB ?_;refine aa.q1 ai C C C C C C C ?_;refine fK ?_;refine ae.cond C (fun Jr=>?_) (fun Pt=>?_)
 ·have Jr:vw<p.nodes.length:=by simpa using Jr
  obtain ⟨z,bE⟩:∃ z,eQ[vw]? = some z:=⟨_,f7 ag⟩;have HE:=Jq z (d6 bE);have Iu:eQ.getD vw 0=z:=by rw [d5,bE];rfl
  refine dL ?_;refine aa.fc ai vw C C C C C C C C C C ag ?_;refine aa.jY ai I C C C C C C aZ C (Jk ag) ?_;rw [Iu];refine fK ?_;refine ae.cond C (fun az=>?_) (fun az=>?_)
  ·have az:z = -1:=by simp at az;omega
   subst az;rw [show eQ.contains (-1)=true from ah8.2 (d6 bE),g6 C] at cc;rw [cc] at gQ;refine js ?_;exact Fin.bt (K:=[]) I C aO .nil ⟨_,by rw [gQ];rfl⟩
  have az:z ≠ -1:=by simp at az;omega
  refine gr ?_;exact bp.mk (vw+1) I ⟨Jr,by rw [hZ bE,an',h8,ah1];simpa using fun e=>az e.symm⟩ ck (aI.all _) (by show p.nodes.length-(vw+1)<p.nodes.length-vw;omega)
 have Pt:vw=p.nodes.length:=by simp at Pt;omega
 rw [List.take_of_length_le ag] at h8;rw [h8,d9 ba] at cc;rw [cc] at gQ;refine ef ?_;exact Fin.bt (K:=[]) I C aO .nil ⟨_,by rw [gQ];rfl⟩
theorem aaa (p:bR) (aD:gC p):aV d0 45 [c9 p] (.bool (gu p)):=by
 have U:=Z8 p aD;refine aV.bl ai Tryz.func45 C C fun s I=>?_
 unfold c9 c1 at *;refine dF ?_;refine aa.b7 rfl rfl rfl rfl rfl U I .nil ?_ (fun _ _ ⟨_,h⟩ _=>by cases h);rintro _ aP ⟨v,⟨⟩⟩ I;refine eg ?_;exact bA I
def sJ (w:bx) (L:List cb):Prop:=∀ x∈L,h9 w x.1=true∧x.1.c0=true
def iq (x:cb):ao:=if x.2 then x.1.not else x.1
def rJ (arg:Int) (path:List Int) (x:cb):Bool:=decide (x.1.arg=arg)&&x.1.path==path
def fm (L:List cb) (arg:Int) (path:List Int):List cb:=L.filter (rJ arg path)
def vx (path Js:List Int):Bool:=decide (path.length≥Js.length)&&path.take Js.length==Js
def lg (arg:Int) (path:List Int) (x:cb):Bool:=decide (x.1.arg=arg)&&vx x.1.path path
def ni (L:List cb) (arg:Int) (path:List Int) (s:Int):Bool:=L.any (lg arg (path++[s]))
def jM (n:Nat) (L:List cb) (arg:Int) (path:List Int):List Int:=((ah0 n).filter fun s=>ni L arg path (s:Nat)).map fun s:Nat=>(s:Int)
def lh (L:List cb) (arg:Int) (path:List Int):Bool := !L.any fun x => !x.2&&lg arg path x
def sK (n:Nat) (L:List cb) (arg:Int) (path:List Int):Bool:=(jM n L arg path).all fun s=>lh L arg (path++[s])
def pE:List cb→Int×Int×List Int→Option (Int×Int×List Int)
 | [],a=>some a
 | x::r,a=>
  if x.1.op=2 then (if decide (x.1.cls>1) != x.2 then none else pE r a)
  else if x.1.op=3 then (if x.2 then pE r (max a.1 x.1.n,a.2.1,a.2.2) else pE r (a.1,min a.2.1 (x.1.n-1),a.2.2))
  else if x.2 then pE r (a.1,a.2.1,a.2.2++[x.1.n])
  else pE r (max a.1 x.1.n,min a.2.1 x.1.n,a.2.2)
def B3:Nat→Int→List Int→Int
 | 0,n,_=>n
 | k+1,n,l=>if l.contains n then B3 k (n+1) l else n
def vy (n:Nat) (L:List cb) (arg:Int) (path:List Int):Bool:=
 match pE (fm L arg path) (-1000000000,1000000000,[]) with
 | none=>false
 | some a=>decide (B3 (a.2.2.length+1) a.1 a.2.2≤a.2.1)&&sK n L arg path
def qo (x:cb):Bool:=(decide (x.1.op=2)&&(decide (x.1.cls=0)||decide (x.1.cls=2)))==x.2
def t' (n:Nat) (L:List cb) (arg:Int) (path:List Int):Bool:=((fm L arg path).all fun x => !qo x)&&sK n L arg path
def qp:List cb→(Nat→Bool)×(Nat→Bool)→Option ((Nat→Bool)×(Nat→Bool))
 | [],a=>some a
 | x::r,a=>
  if x.1.op≠2∨x.1.cls=1∨x.1.cls=2 then (if x.2 then qp r a else none)
  else if x.2 then qp r (a.1,fun k=>if k=x.1.cls.toNat then true else a.2 k)
  else qp r (fun k=>if k=x.1.cls.toNat then true else a.1 k,a.2)
def sL (w:bx) (L:List cb) (cn:List Int→Bool) (arg:Int) (path:List Int):List Int→(Nat→Bool)×(Nat→Bool)→Option ((Nat→Bool)×(Nat→Bool))
 | [],a=>some a
 | s::r,a=>
  if !lh L arg (path++[s]) && !cn (path++[s]) then none
  else sL w L cn arg path r (if lh L arg (path++[s]) then a.1 else fun k=>if k=(w.owner.getD s.toNat 0).toNat then true else a.1 k,
   if cn (path++[s]) then a.2 else fun k=>if k=(w.owner.getD s.toNat 0).toNat then true else a.2 k)
def xL (w:bx) (L:List cb) (cn:List Int→Bool) (arg:Int) (path:List Int):Bool:=
  match qp (fm L arg path) (fun _=>false,fun _=>false) with
  | none=>false
  | some a=>match sL w L cn arg path (jM w.owner.length L arg path) a with
    | none=>false
    | some a => !a.2 0&&(ah0 (3+w.ps.length)).all fun k => !(hp w.ps w.ps.length (fun k=>if k=0 then false else a.1 k) k&&a.2 k)
def oL (w:bx) (L:List cb) (arg:Int):Nat→List Int→Bool
 | 0,_=>false
 | k+1,path=>vy w.owner.length L arg path||(t' w.owner.length L arg path||xL w L (oL w L arg k) arg path)
def B4 (w:bx) (L:List cb):Bool:=(ah0 3).all fun a=>oL w L ((a:Nat):Int) 3 []
def oM (L:List cb):af := .aB 6 (L.map fun x=>(iq x).bW) .bc
def kM (w:bx) (L:List cb) (arg:Int) (path:List Int):af := .agg [cZ w.ps,bg w.owner,oM L,.int .i64 arg,bg path,.bool false]
theorem zp (x:cb) (ab:x.1.c0=true):aV d0 213 [(iq x).bW] (.cu [x.1.bW,.bool x.2]):=by
 have an:=bG;refine aV.bl ai Tryz.func213 C C fun s I=>?_
 obtain ⟨⟨o,a,p,c,n,ks⟩,b⟩:=x;have ab:(ao.mk o a p c n ks).c0=true:=ab;have ax:([ao.mk o a p c n ks].map ao.bW)[0]? = some (ao.mk o a p c n ks).bW:=rfl;unfold ao.c0 at ab;simp only [ao.op] at ab;have bz:o≠5:=fun e=>by subst e;simp at ab
 unfold iq;cases b with
 | true=>
  rw [g6 C];simp only [ao.cp,ao.cells,ao.not,ao.op,ao.arg,ao.path,ao.cls,ao.n,ao.kids] at ax ⊢
  repeat (first|(refine Ue I ?_;clear I;intro I)|refine aa.dK ai I rfl rfl rfl rfl rfl rfl rfl (fun cA I=>?_))
  exact Fin.cG I (wK C C (bo.get aZ I) C C) aO
 | false=>
  rw [d9 ba];simp only [ao.cp,ao.cells,ao.not,ao.op,ao.arg,ao.path,ao.cls,ao.n,ao.kids]
  repeat (first|(refine Dm ?_)|refine aa.dK ai I C C C C C C C (fun cA I=>?_))
  refine ae.cond C (fun h=>absurd fV bz) (fun _=>?_);refine cv I ?_;intro I;exact Fin.cG I (wK C C (bo.get aZ I) C C) aO
theorem Pu (a b:List Int) (aR:a.length<bB) (dR:b.length<bB):aV d0 250 [bg a,bg b] (.bool (vx a b)):=by
 have an:=bG;refine aV.bl ai Tryz.func250 C C fun s I=>?_
 unfold bg vx;by_cases h:b.length≤a.length
 ·have U:=yx (a.take b.length) b ui dR
  rw [g7 h,f5];unfold bg at U;rw [List.map_take] at U;have e:(b.map bb).length=b.length:=f0 _;rw [← e] at U;refine dF ?_;refine aa.dy 10 C fV ?_;refine ep ?_;refine aa.slice ai 0 (b.map bb).length C C C C C C C C (.inr C) (.inl ⟨rfl,rfl⟩) (.inr ⟨_,_,rfl,rfl⟩) (.inl ⟨rfl,rfl⟩) (g8 _) fV ?_;rw [al7];refine db ?_;exact Fin.cG I C (aU.of_eq (by rw [e]))
 ·rw [H1 h,f6]
  refine dF ?_;refine aa.da 10 C fV ?_;refine eg ?_;exact bA I
theorem Jt (w:bx) (L:List cb) (arg:Int) (path:List Int) (bC:Int) (aD:path.length≤3):aV d0 216 [kM w L arg path,.int .i64 bC] (kM w L arg (path++[bC])):=by
 have an:=bG;refine aV.bl ai Tryz.func216 C C fun s I=>?_
 unfold kM oM cZ bg;refine kB ?_;refine aa.dK ai I C C C C C C C (fun oE I=>?_);refine hx ?_;refine ae.qT ai mixed C (bd.run C ?_);refine bm.Ar 8 ai I C C C C C C C C C er C C C (.inr C) C (Hu _) C (f0 _).symm (by show path.length*8≤_;omega) ag (fun _ _ => .inl trivial) (fun dT I=>?_);refine bd.run C ?_;refine bm.gn 11 ai I C C C C C C C C C er C C C C C C C C .here (f0 _).symm ki ag (fun _ _ => .inl trivial) (fun dh I=>?_);refine bd.run C ?_;refine bd.cM 15 ai I C C C C C C C C C C C aZ bZ (fun I=>?_);refine bd.run C ?_;refine bd.done C ?_;refine eA ?_;exact Fin.cG I (o6 C C (bo.get aZ I) C) (aU.agg (.cons aO (.cons aO (.cons aO (.cons aO (.cons (aU.of_eq (by rw [ae1];rfl) |>.trans aU.bc) (.one aO)))))))
mutual
theorem Ju:∀ (f:ao) (w:bx) (b:Bool),gM w f=true→∀ l∈h0 b f,∀ x∈l,gM w x.1=true∧x.1.c0=true
  | .mk o a p c n ks,w,b,av,l,h,x,ab=>by
    have n8:=av;rw [gM,f9] at n8;rw [h0] at h;split at h
    · split at h
      · cases h
      · rw [t6] at h;subst h;cases ab
    · split at h
      · exact zq ks w _ 0 n8.2 l h x ab
      · split at h
        · rename_i aE
          rw [t6] at h;subst h;rw [t6] at ab;subst ab;exact ⟨av,aE⟩
        · split at h
          · rcases ae4.1 h with h|h
            · exact zq ks w _ 0 n8.2 l h x ab
            · exact zq ks w _ 1 n8.2 l h x ab
          · obtain ⟨u,hu,h⟩:=List.mem_flatMap.1 h
            obtain ⟨v,au,rfl⟩:=ag0.1 h;rcases DK v u ab with ab|ab
            · exact zq ks w _ 0 n8.2 u hu x ab
            · exact zq ks w _ 1 n8.2 v au x ab
theorem zq:∀ (ks:List ao) (w:bx) (b:Bool) (n:Nat),jJ w ks=true→∀ l∈ia b n ks,∀ x∈l,gM w x.1=true∧x.1.c0=true
  | [],_,b,n,_,l,h,_,_=>by rw [ia] at h;cases h
  | y::r,w,b,0,av,l,h,x,ab=>by
    rw [jJ,f9] at av;rw [ia] at h;exact Ju y w b av.1 l h x ab
  | y::r,w,b,n+1,av,l,h,x,ab=>by
    rw [jJ,f9] at av;rw [ia] at h;exact zq r w b n av.2 l h x ab
end
theorem aab (w:bx) (f:ao) (a7:f.size<bB) (av:gM w f=true) (b:Bool):yu d0 242 [] [.br f.cells 0,.br [.bool b] 0] [] p' (h0 b f):=by
 intro l Go fB fL o7 K bf;have eo:∀ dM,Ba dM (lU l) (fun xs K=>∃ aP,K=aP++[(.own dM,si dM)]∧Go xs aP) (fun K=>∃ aP,K=aP++[(.own dM,si dM)]∧fB aP) (fun v K=>∃ aP,K=aP++[(.own dM,si dM)]∧fL v aP):=fun dM=>by
  refine ⟨rfl,fun x rem K ⟨aP,e,av⟩=>?_,fun xs K ⟨aP,e,_⟩=>⟨aP++[],by subst e;exact bo.app aP .here⟩,fun K ⟨aP,e,_⟩=>⟨aP++[],by subst e;exact bo.app aP .here⟩⟩;subst e;refine di.frame (R:=[(.own dM,si dM)]) (o7 x rem aP av) (aI.jt (aI.ei aP)) ?_;rintro o lH (⟨rfl,h⟩|⟨rfl,h⟩|⟨v,rfl,h⟩)
  ·exact .inl ⟨rfl,lH,rfl,h⟩
  ·exact .inr (.inl ⟨rfl,lH,rfl,h⟩)
  ·exact .inr (.inr ⟨v,rfl,lH,rfl,h⟩)
 have hw:=fun dM=>di.fk (first:=[]) (args:=[f.bW,.bool b,lU l]) (cap:=[.ptr dM 0]) (Wl w dM f.size f (g9 _) a7 av b (lU l) _ _ _ (eo dM) [] (K++[(.own dM,si dM)]) ⟨K,rfl,by rw [d7];exact bf⟩)
 rw [ao.cp] at hw;refine bF.bl ai Tryz.func242 C C fun s I=>?_
 rw [d8] at I ⊢;unfold ao.cells;unfold ao.cells at hw
 repeat (first|(refine Uf I ?_;clear I;intro I)|refine aa.dK ai I rfl rfl rfl rfl rfl rfl rfl (fun cA I=>?_))
 refine aa.gJ C C C C C C (hw cA) I (aI.ik (List.perm_append_singleton _ _).symm) ?_ ?_
 ·rintro x _ (⟨⟨⟩,lH,rfl,h⟩|⟨⟨⟩,lH,rfl,h⟩|⟨_,⟨⟩,_⟩) I
  all_goals rw [d7] at I ⊢
  ·refine fK ?_
   exact Fin.bt I C aO (aI.jt (aI.ei lH)) (.inl ⟨rfl,.inl h⟩)
  ·refine fK ?_
   exact Fin.bt I C aO (aI.jt (aI.ei lH)) (.inl ⟨rfl,.inr h⟩)
 ·rintro x _ (⟨h,_⟩|⟨h,_⟩|⟨v,⟨⟩,lH,rfl,h⟩) I
  ·cases h
  ·cases h
  rw [d7] at I ⊢;exact Fin.fb I aO (aI.jt (aI.ei lH)) (.inr ⟨_,rfl,h⟩)
theorem aac (f:ao) (b:Bool):aV d0 210 [f.bW,.bool b] (.func 242 [] [.br f.cells 0,.br [.bool b] 0]):=by
 have an:=bG;refine aV.bl ai Tryz.func210 C C fun s I=>?_
 rw [ao.cp];unfold ao.cells;refine gT ?_;exact bA I
def xM (w:bx) (f:ao):Bool:=(h0 false f).any fun l=>nN w (et l)
theorem aad (w:bx) (hw:gg w) (f:ao) (a7:3*f.size+3<bB) (av:gM w f=true):aV d0 174 [gh w,f.bW] (.bool (xM w f)):=by
 have an:=bG;refine aV.bl ai Tryz.func174 C C fun s I=>?_
 have aF:=aac f false;have ob:=aab w f ag av false;have aae:=fun (l:List cb) (h:l∈h0 false f)=>Yf w hw l (by have:=(Hr f false l h).1;omega) (fun x ab=>⟨(Ju f w false av l h x ab).1,(Ju f w false av l h x ab).2⟩)
 rw [ao.cp] at aF ⊢;unfold ao.cells at *;unfold gh e5 at *
 repeat (first|(refine Ug I ?_;clear I;intro I)|refine aa.dK ai I rfl rfl rfl rfl rfl rfl rfl (fun cA I=>?_)|(refine o4 ?_))
 refine ae.GL I C ec ob .nil (fun rem K=>(∀ l∈rem,l∈h0 false f)∧xM w f=(rem.any fun l=>nN w (et l))∧K=[(.own cA,.box 4 [.bool false])]) (fun j K=>j = .exit 0∧xM w f=true∧K=[(.own cA,.box 4 [.bool true])]) (fun _ _=>False) ⟨fun _ h=>h,rfl,rfl⟩ ?_ ?_ ?_ (fun _ _ h=>h.elim)
 ·rintro s₁ l rem K ⟨hm,aC,rfl⟩ I
  have Pv:=aae l (hm l i8);rw [ak4] at aC;cases xN:nN w (et l) with
  | true=>
   rw [xN] at Pv;rw [xN,al9] at aC;refine gK I ?_;intro I;exact At.mk _ I (aI.ei _) ⟨rfl,aC,rfl⟩
  | false=>
   rw [xN] at Pv;rw [xN,ah1] at aC;refine cB ?_;exact At.mk _ I (aI.ei _) ⟨fun l h=>hm l (i6 _ h),aC,rfl⟩
 ·rintro K ⟨_,aC,rfl⟩ I
  have aC:xM w f=false:=aC;rw [aC];refine cv I ?_;intro I;exact bA I
 ·rintro j K ⟨rfl,aC,rfl⟩ I
  rw [aC];refine cv I ?_;intro I;exact bA I
theorem aaf (w:bx) (hw:gg w) (f:ao) (a7:3*f.size+3<bB):aV d0 127 [fh w,f.bW] (.cu [.bool (h' w f&&xM w f),.int .i64 (if h' w f then 0 else 2)]):=by
 have an:=bG;refine aV.bl ai Tryz.func127 C C fun s I=>?_
 have U:=Hz w hw [f] cP (by intro g av;rw [t6] at av;subst av;omega);rw [ae2,ah2,ao.cp] at U;rw [ak',ap3,aq9] at U;cases vm:h' w f with
 | false=>
  rw [vm] at U;rw [ao.cp];unfold fh fl cZ bg at *;unfold gh e5 at *;refine cB ?_;exact bA I
 | true=>
  rw [vm] at U;have ad:=aad w hw f a7 (uX f w 12 24 vm);rw [ao.cp] at ad ⊢;unfold fh fl cZ bg at *;unfold gh e5 at *;refine cB ?_;exact bA I
theorem Pw (f:ao):h3 f f=true:=by unfold h3;simp
theorem aag {l:List ao} (f:ao) (h:l.Nodup):(kn l f).Nodup:=by
 unfold kn;split
 ·exact h
 ·rename_i az
  rw [List.nodup_append];refine ⟨h,by simp,fun a aR b an=>?_⟩;rw [t6.1 an];rintro rfl;exact az (ag5.2 ⟨a,aR,Pw a⟩)
theorem Px:∀ (c3 l:List ao),l.Nodup→(c3.foldl kn l).Nodup
 | [],_,h=>h
 | x::r,l,h=>Px r _ (aag x h)
theorem Py (gen:Int):∀ (ms:List hS) (l:List ao),l.Nodup→(ms.foldl (l8 gen) l).Nodup
 | [],_,h=>h
 | m::r,l,h=>Py gen r _ (by unfold l8;split;exact Px _ _ h;exact h)
theorem aah (p:bR) (gen:Int):(ca p gen).Nodup:=Py gen _ _ List.nodup_nil
def sM (f:ao) (b:Bool):ao:=if b then f else f.not
def sN (v:Nat):Nat→List ao→ao→ao
 | _,[],a=>a
 | i,f::r,a=>sN v (i+1) r (if i=0 then sM f (v.testBit i) else a.and (sM f (v.testBit i)))
def xO (l:List ao) (v:Nat):ao:=sN v 0 l (.mk 1 0 [] 0 0 [])
theorem B5 {w:bx} {f:ao} (av:gM w f=true) (aE:f.c0=true):f.kids=[]:=by
 rw [p4,f9] at av;rcases DO av.1 with ⟨_,h⟩|⟨_,h,_⟩|⟨h,_⟩|⟨h,_⟩
 ·exact h
 ·exact h
 ·unfold ao.c0 at aE;rw [h] at aE;cases aE
 ·unfold ao.c0 at aE;rcases h with h|h<;>(rw [h] at aE;cases aE)
theorem aai {f:ao} (aE:f.c0=true):f.op=2∨f.op=3∨f.op=4:=by unfold ao.c0 at aE;simp at aE;omega
theorem Pz {f:ao} (aE:f.c0=true) (b:Bool):h0 b f=[[(f,b)]]:=by
 have:=aai aE;rw [Mz,d9 ag,d9 ag,g6 aE]
theorem aaj {f:ao} (aE:f.c0=true) (b:Bool):h0 false (sM f b)=[[(f,!b)]]:=by
 cases b with
 | true=>exact Pz aE false
 | false=>
  show h0 false f.not=_;unfold ao.not;rw [h0,d9 ec,g6 C,ia];exact Pz aE true
theorem aak {a x:ao} {nj PA:List cb} (aR:h0 false a=[nj]) (ab:h0 false x=[PA]):h0 false (a.and x)=[jK nj PA]:=by
 unfold ao.and;rw [h0,d9 ec,d9 ec,d9 (by simp [ao.c0,ao.op]),d9 ec,ia,ia,ia,aR,ab];rfl
theorem aal {nj:List cb} {x:cb} (h:∀ y∈nj,y.1≠x.1):jK nj [x]=nj++[x]:=by
 show rb nj x=_;unfold rb;rw [d9];intro az;obtain ⟨y,ax,ad⟩:=ag5.1 az;exact h y ax (by rw [(Vm x y).1 ad])
theorem PB (v:Nat):∀ (l:List ao) (i:Nat) (a:ao) (nj:List cb),(∀ x∈l,x.c0=true)→l.Nodup→(∀ y∈nj,y.1∉l)→(i=0→nj=[])→h0 false a=[nj]→h0 false (sN v i l a)=[nj++su i l v]
  | [],i,a,nj,_,_,_,_,h=>by rw [sN,su,d7];exact h
  | f::r,i,a,nj,aE,az,ay,bu,h=>by
    rw [List.nodup_cons] at az;have cq:∀ y∈nj++[(f,!v.testBit i)],y.1∉r:=fun y ax=>by
      rcases ae4.1 ax with ax|ax
      · exact fun hm=>ay y ax (i6 _ hm)
      · rw [t6.1 ax];exact az.1
    have e:=aaj (aE f i8) (v.testBit i);have ar:h0 false (if i=0 then sM f (v.testBit i) else a.and (sM f (v.testBit i)))=[nj++[(f,!v.testBit i)]]:=by
      split
      · rename_i aN;rw [bu aN,e];rfl
      · rw [aak h e,aal]
        intro y ax he;refine ay y ax ?_;rw [he];exact i8
    rw [sN,su,PB v r (i+1) _ _ (fun x ab=>aE x (i6 _ ab)) az.2 cq ag ar,List.append_assoc];rfl
theorem aam {l:List ao} (aE:∀ x∈l,x.c0=true) (az:l.Nodup) (v:Nat):h0 false (xO l v)=[rp l v]:=
 PB v l 0 _ [] aE az (fun _ h=>by cases h) (fun _=>rfl) (by rw [h0];simp)
theorem PC {w:bx} {f:ao} (av:gM w f=true) (aE:f.c0=true) {d:Nat} {k:Int} (ay:1≤d) (aA:1≤k):e1 w d k f=(true,k-1):=by
 have aan:=B5 av aE;rw [p4,f9] at av;obtain ⟨o,a,p,c,n,ks⟩:=f;rw [e1,d9 cP,g6 av.1];have:ks=[]:=aan;rw [this,gV]
theorem aao {w:bx} {f:ao} {d:Nat} {k m:Int} (h:e1 w d (k-1) f=(true,m)) (aA:1≤k):e1 w (d+1) k f.not=(true,m):=by
 unfold ao.not;rw [e1,d9 cP,g6 (by rfl),aq0,gV,h,g6 C,gV]
theorem aap {w:bx} {f g:ao} {d:Nat} {k m r:Int} (h:e1 w d (k-1) f=(true,m)) (ad:e1 w d m g=(true,r)) (aA:1≤k):e1 w (d+1) k (f.and g)=(true,r):=by
 unfold ao.and;rw [e1,d9 cP,g6 (by rfl),aq0,gV,h,g6 C,gV,ad,g6 C,gV]
theorem PD {w:bx} {f:ao} (av:gM w f=true) (aE:f.c0=true) (b:Bool) {d:Nat} {k:Int} (ay:2≤d) (aA:2≤k):∃ m,e1 w d k (sM f b)=(true,m)∧k-2≤m:=by
 cases b with
 | true=>exact ⟨k-1,PC av aE ag ag,by omega⟩
 | false=>
  obtain ⟨e,rfl⟩:∃ e,d=e+1:=⟨d-1,by omega⟩;exact ⟨k-1-1,aao (PC av aE ag ag) ag,by omega⟩
def B6 (w:bx) (i:Nat) (a:ao):Prop:=∀ (d:Nat) (k:Int),i+1≤d→3*(i:Int)≤k→1≤k→∃ m,e1 w d k a=(true,m)∧k-(if i=0 then 1 else 3*(i:Int)-1)≤m
theorem B6.next {w:bx} {i:Nat} {a f:ao} {b:Bool} (h:B6 w i a) (av:gM w f=true) (aE:f.c0=true):B6 w (i+1) (if i=0 then sM f b else a.and (sM f b)):=by
 intro d k ay aA lO;split
 ·rename_i bu
  subst bu;obtain ⟨m,U,ad⟩:=PD av aE b (d:=d) (k:=k) ag ag;exact ⟨m,U,by simp;omega⟩
 ·rename_i bu
  obtain ⟨e,rfl⟩:∃ e,d=e+1:=⟨d-1,by omega⟩;obtain ⟨m,U,ad⟩:=h e (k-1) ag ag ag;rw [d9 bu] at ad;obtain ⟨r,aj,a'⟩:=PD av aE b (d:=e) (k:=m) ag ag;exact ⟨r,aap U aj ag,by rw [d9 ag];push_cast;omega⟩
theorem PE {w:bx} (v:Nat):∀ (l:List ao) (i:Nat) (a:ao),jA w l→B6 w i a→B6 w (i+l.length) (sN v i l a)
  | [],i,a,_,h=>h
  | f::r,i,a,de,h=>by
    have U:=de f i8;have:=PE (w:=w) v r (i+1) _ (fun x ab=>de x (i6 _ ab)) (h.next (b:=v.testBit i) U.1 U.2);rw [sN,i0,show i+(r.length+1)=i+1+r.length by omega];exact this
theorem aaq {w:bx} {l:List ao} (de:jA w l) (hs:l.length≤7) (v:Nat):h' w (xO l v)=true:=by
 have:=PE (w:=w) v l 0 (.mk 1 0 [] 0 0 []) de (fun d k ay _ lO=>⟨k-1,by
  rw [e1,d9 cP,g6 (by rfl),gV],by simp⟩)
 obtain ⟨m,U,-⟩:=this 12 24 ag ag ag;unfold h';show (e1 w 12 24 (xO l v)).1=true;unfold xO;rw [U]
theorem aar {w:bx} {l:List ao} (de:jA w l) (hs:l.length≤7) (az:l.Nodup) (v:Nat):(h' w (xO l v)&&xM w (xO l v))=nd w l v:=by
 rw [aaq de hs,f5];unfold xM nd;rw [aam (fun x ab=>(de x ab).2) az];simp
theorem aas (v c:Nat):(((v >>> c &&& 1:Nat):Int)==0) = !v.testBit c:=by
 rw [← yY,Nat.and_one_is_mod];have:v >>> c % 2=0∨v >>> c % 2=1:=by omega
 rcases this with h|h<;>rw [h]<;>rfl
theorem PF (f:ao):f.not.size=1+f.size:=by
 unfold ao.not;rw [ao.size,ao.iC,ao.iC,af7];omega
theorem PG (f g:ao):(f.and g).size=1+f.size+g.size:=by
 unfold ao.and;rw [ao.size,ao.iC,ao.iC,ao.iC,af7];omega
theorem PH (p:bR) (eD:gu p=true) (n:Int) (l:List ao) (vs:af) (an cH ct:Nat) (gj:l.length≤7) (de:jA (bT p) l) (eM:l.Nodup) (v:Nat) (au:v<2^63) :
  bF d0 80 [.ptr ct 0,.int .i64 (v:Int)] [eE p n (d' l) vs an cH ct] (fun o K=>o = .ret (.bool (nd (bT p) l v))∧K=[eE p n (d' l) vs an cH ct]):=by
 have n6:bB=1099511627776:=rfl;have l':=xy eD;rw [← aar de gj eM v];refine bF.bl ai Tryz.func80 C C fun s I=>?_
 unfold eE eu d' at *
 repeat (first|(refine GA I ?_;clear I;intro I)|refine aa.dK ai I rfl rfl rfl rfl rfl rfl rfl (fun cA I=>?_))
 refine ae.ru I (ao.mk 1 0 [] 0 0 []).cells (kb:=cA) aZ (by
  repeat (first|exact cR.nil|refine cR.cons (by first|exact aO|exact aU.empty) ?_)) (fun I=>?_)
 obtain ⟨B7,rfl⟩:∃ x,x=cA:=⟨_,rfl⟩;skip;refine ae.b9 [0,1,5,14,15] C I (σ:=Nat×ao×List af) (fun q=>[(16,.int .i64 (q.1:Int))]) (fun q=>[(.own B7,.box 58 q.2.2),eE p n (d' l) vs an cH ct]) (fun q=>cR q.2.2 q.2.1.cells∧q.1≤l.length∧q.2.1.size≤1+6*q.1∧xO l v=sN v q.1 (l.drop q.1) q.2.1) (fun q=>l.length-q.1) (0,.mk 1 0 [] 0 0 [],(ao.mk 1 0 [] 0 0 []).cells) ⟨cR.refl _,g8 _,by simp [ao.size,ao.iC],rfl⟩ (cz C) xJ ?_;rintro ⟨j,acc,cs⟩ ⟨hle,aH,b',aq⟩ I;simp only [eE,eu,d'] at hle aH b' aq I ⊢;refine ae.ru I acc.cells (kb:=B7) aZ hle (fun I=>?_);refine b8 ?_;refine ae.cond C (fun aw=>?_) (fun aY=>?_);rotate_left
 ·have aY:j=l.length:=by simp at aY;omega
  rw [eG ag,sN] at aq;rw [aq];have aF:=aaf (bT p) l' acc ag;rw [ao.cp] at aF;unfold fh fl at aF;refine ae.mu I 5 B7 C .here (fun I=>?_);cases a7:h' (bT p) acc with
  | true=>
   rw [a7] at aF;simp only [f5,ag7] at aF ⊢
   repeat (first
    | refine ae.uV I ct .here ai mixed C ?_
    | with_reducible apply ae.seq
    | with_reducible apply b4
    | with_reducible apply lV
    | with_reducible apply fA
    | with_reducible apply lW
    | with_reducible apply ae.exit)
   refine cB ?_;exact Fin.bt I C aO (aI.all _) ⟨rfl,rfl⟩
  | false=>
   rw [a7] at aF;simp only [f6,af6,ah9] at aF ⊢
   repeat (first
    | refine ae.uV I ct .here ai mixed C ?_
    | with_reducible apply ae.seq
    | with_reducible apply b4
    | with_reducible apply lV
    | with_reducible apply fA
    | with_reducible apply lW
    | with_reducible apply ae.exit)
   refine cB ?_;exact Fin.bt I C aO (aI.all _) ⟨rfl,rfl⟩
 have aw:j<l.length:=by simpa using aw
 obtain ⟨f,ab,bP⟩:=b5 (f:=ao.bW) aw;have sD:=de f (d6 ab);have vu:f.size≤3:=by
  have U:=f.size_eq;have ad:=xz sD.1 sD.2;have aj:=B5 sD.1 sD.2;rw [aj,ao.iC] at U;omega
 rw [drop_cons ab,sN] at aq;rw [ao.cp] at bP;have rP:=aas v j;unfold ao.cells at bP I ⊢
 repeat (first|(refine uN I ?_;clear I;intro I)|refine aa.dK ai I rfl rfl rfl rfl rfl rfl rfl (fun cA I=>?_))
 refine aa.shr _ C C C C C C ag (r6 ag) ?_;refine aa.bits _ C C C C C C (q3 (n:=1) (aj6 (ao1 v j) au) ag) ?_;refine fK ?_;cases o3:v.testBit j with
 | true=>
  rw [o3] at rP;rw [o3,show sM f true=f from rfl] at aq;refine ae.cond C (fun h=>absurd h (by rw [rP];simp)) (fun _=>?_);cases j with
  | zero=>
   rw [g6 C] at aq;refine gK I ?_;intro I;refine bp.mk (1,f,?_) I ?_ Dn Pj (by show l.length-1<l.length-0;omega);refine ⟨?_,aw,by show ao.size f≤7;omega,aq⟩;exact cR.refl _
  | succ k=>
   rw [d9 ag] at aq;refine gK I ?_;intro I;refine bp.mk (k+2,acc.and f,?_) I ?_ Aw xJ (by show l.length-(k+2)<l.length-(k+1);omega)
   refine ⟨?_,aw,(by
    have bz:ao.size f≤5:=by omega
    show (acc.and f).size≤1+6*(k+2)
    rw [PG];omega),aq⟩
   show cR _ (acc.and f).cells;unfold ao.and ao.cells;refine .cons aO (.cons aO (.cons aU.empty (.cons aO (.cons aO (.one ?_)))));simp only [ao.kids,ae2,ah2,ao.cp];exact aU.bc
 | false=>
  rw [o3] at rP;rw [o3,show sM f false=f.not from rfl] at aq;refine ae.cond C (fun _=>?_) (fun h=>absurd h (by rw [rP];simp));refine gK I ?_;intro I
  refine ae.ru I f.not.cells (kb:=cA) aZ (by
   unfold ao.not ao.cells
   refine .cons aO (.cons aO (.cons aU.empty (.cons aO (.cons aO (.one ?_)))))
   simp only [ao.kids,ae2,ah2,ao.cp]
   exact aU.bc) (fun I=>?_)
  cases j with
  | zero=>
   rw [g6 C] at aq;refine gK I ?_;intro I;refine bp.mk (1,f.not,?_) I ?_ Dn Pj (by show l.length-1<l.length-0;omega);refine ⟨?_,aw,by show ao.size f.not≤7;(rw [PF];omega),aq⟩;exact cR.refl _
  | succ k=>
   rw [d9 ag] at aq;refine gK I ?_;intro I;refine bp.mk (k+2,acc.and f.not,?_) I ?_ Aw xJ (by show l.length-(k+2)<l.length-(k+1);omega)
   refine ⟨?_,aw,(by
    have bz:ao.size f.not≤5:=by (rw [PF];omega)
    show (acc.and f.not).size≤1+6*(k+2)
    rw [PG];omega),aq⟩
   show cR _ (acc.and f.not).cells;unfold ao.and ao.cells;refine .cons aO (.cons aO (.cons aU.empty (.cons aO (.cons aO (.one ?_)))));simp only [ao.kids,ae2,ah2,ao.cp];exact aU.bc
def fU (f:Nat→Bool) (o:Nat):Nat→Nat
 | 0=>0
 | n+1=>fU f o n+(if f (o+n) then 2^n else 0)
theorem mc (f:Nat→Bool) (o:Nat):∀ n,fU f o n<2^n
  | 0=>Nat.one_pos
  | n+1=>by
    have:=mc f o n;rw [fU,as'];split<;>omega
theorem oN (f:Nat→Bool) (o:Nat):∀ n i,(fU f o n).testBit i=(decide (i<n)&&f (o+i))
  | 0,i=>by rw [fU];simp
  | n+1,i=>by
    have U:=mc f o n;have ad:=oN f o n i;rw [fU];cases a7:f (o+n) with
    | false=>
      rw [d9 ba,Nat.add_zero,ad];rcases au9 i n with h|h|h
      · rw [g7 h,g7 ag]
      · subst h;rw [a7];simp
      · rw [H1 ag,H1 ag]
    | true=>
      rw [g6 C,aq1];rcases au9 i n with h|h|h
      · rw [Nat.testBit_two_pow_add_gt h,ad,g7 h,g7 ag]
      · subst h
        rw [Nat.testBit_two_pow_add_eq,ad,a7];simp
      · rw [H1 ag,f6]
        exact an1 (ak8 (show 2^n+fU f o n<2^(n+1) by rw [as'];omega) (ah7 ag ag))
theorem EO {f:Nat→Bool} {o n m:Nat} (hm:m<2^n) (h:∀ i,i<n→m.testBit i=f (o+i)):m=fU f o n:=by
 apply al8;intro i;rw [oN];by_cases aN:i<n
 ·rw [h i aN,g7 aN,f5]
 ·rw [H1 aN,f6]
  exact an1 (ak8 hm (ah7 ag ag))
def j5 (f:Nat→Bool):List Int:=[(fU f 0 64:Int),(fU f 64 64:Int)]
theorem PI (f g:Nat→Bool) (o n:Nat):fU f o n &&& fU g o n=fU (fun u=>f u&&g u) o n:=
 EO (aj6 av3 (mc f o n)) fun i aN=>by
  rw [ak2,oN,oN,g7 aN];rfl
theorem PJ (f g:Nat→Bool) (o:Nat):k2 (fU f o 64) (fU g o 64)=fU (fun u=>f u && !g u) o 64:=
 EO (aj6 av3 (mc f o 64)) fun i aN=>by
  unfold k2;rw [ak2,as1,oN,oN,g7 aN,show (18446744073709551615:Nat)=2^64-1 by decide,ai1,g7 aN];simp
theorem PK (f:Nat→Bool) (o n i:Nat) (aN:i<n):fU f o n|||2^i=fU (fun u=>f u||u==o+i) o n:=
  EO (aj2 (mc f o n) (ai4 ag aN)) fun j aH=>by
    rw [al5,oN,aj7,g7 aH,f5];congr 1;rw [af4,i7,am7];omega
theorem PL {f g:Nat→Bool} {o n:Nat} (h:∀ i,i<n→f (o+i)=g (o+i)):fU f o n=fU g o n:=
 EO (mc f o n) fun i aN=>by rw [oN,g7 aN,f5,h i aN]
theorem aat {f g:Nat→Bool} (h:j5 f=j5 g):∀ u,u<128→f u=g u:=by
 unfold j5 at h;have U:fU f 0 64=fU g 0 64:=by have:=(at4.inj h).1;omega
 have ad:fU f 64 64=fU g 64 64:=by have:=(at4.inj (at4.inj h).2).1;omega
 intro u hu;by_cases ar:u<64
 ·have a:=oN f 0 64 u
  have b:=oN g 0 64 u;rw [U,b,g7 ar,f5,f5,af8] at a;exact a.symm
 ·have a:=oN f 64 64 (u-64)
  have b:=oN g 64 64 (u-64);rw [ad,b,g7 ag,f5,f5,show 64+(u-64)=u by omega] at a;exact a.symm
theorem B8 {o:Nat} {f:Nat→Bool} (h:∀ u,f u=false):∀ n,fU f o n=0
 | 0=>rfl
 | n+1=>by rw [fU,B8 h n,h,d9 ba]
theorem aau:j5 (fun _=>false)=[0,0]:=by
 unfold j5;rw [B8 (fun _=>rfl),B8 (fun _=>rfl)];rfl
def lj (f:Nat→Bool):af := .agg [.int .u64 (fU f 0 64:Nat),.int .u64 (fU f 64 64:Nat)]
theorem PM {v:Nat} (au:v<2^40):ad5 .i64 (Int.tdiv (v:Int) (aq4 64))=((v / 64:Nat):Int):=by
 rw [show Int.tdiv (v:Int) (aq4 64)=((v / 64:Nat):Int) from rfl];exact ee ag ag
theorem PN (v:Nat):Int.tmod (v:Int) (aq4 64)=((v % 64:Nat):Int):=rfl
theorem Jv (m c:Nat):(((m >>> c &&& 1:Nat):Int)==1)=m.testBit c:=yY m c
theorem aav (f g:Nat→Bool):aV d0 106 [lj f,lj g] (lj (fun u=>f u&&g u)):=by
 have an:=bG;refine aV.bl ai Tryz.func106 C C fun s I=>?_
 unfold lj
 repeat (first|(refine Lw ?_)|refine aa.dK ai I C C C C C C C (fun cA I=>?_))
 refine aa.l1 ai 0 C C C C C C C C C C ag ?_;refine ep ?_;refine aa.l1 ai 0 C C C C C C C C C C ag ?_;refine ep ?_;refine aa.bits _ C C C C C C (uQ (mc f 0 64) (mc g 0 64)) ?_;refine aa.l1 ai 1 C C C C C C C C C C ag ?_;refine ep ?_;refine aa.l1 ai 1 C C C C C C C C C C ag ?_;refine ep ?_;refine aa.bits _ C C C C C C (uQ (mc f 64 64) (mc g 64 64)) ?_;rw [PI,PI];refine cv I ?_;intro I;exact Fin.cG I (o6 C C (bo.get aZ I) C) aO
theorem aaw (f g:Nat→Bool):aV d0 107 [lj f,lj g] (lj (fun u=>f u && !g u)):=by
 have an:=bG;refine aV.bl ai Tryz.func107 C C fun s I=>?_
 unfold lj
 repeat (first|(refine Lw ?_)|refine aa.dK ai I C C C C C C C (fun cA I=>?_))
 refine aa.l1 ai 0 C C C C C C C C C C ag ?_;refine ep ?_;refine aa.l1 ai 0 C C C C C C C C C C ag ?_;refine ep ?_;refine aa.bits _ C C C C C C (Dv (mc f 0 64) (mc g 0 64)) ?_;refine aa.l1 ai 1 C C C C C C C C C C ag ?_;refine ep ?_;refine aa.l1 ai 1 C C C C C C C C C C ag ?_;refine ep ?_;refine aa.bits _ C C C C C C (Dv (mc f 64 64) (mc g 64 64)) ?_;rw [PJ,PJ];refine cv I ?_;intro I;exact Fin.cG I (o6 C C (bo.get aZ I) C) aO
theorem aax (f:Nat→Bool) (v:Nat) (au:v<128):aV d0 151 [lj f,.int .i64 (v:Int)] (.bool (f v)):=by
 have an:=bG;refine aV.bl ai Tryz.func151 C C fun s I=>?_
 unfold lj;have bk:=PM (v:=v) ag;have aC:=PN v;have hm:=Nat.mod_lt v (show 64>0 by omega);by_cases h:v<64
 ·refine bD ?_
  refine aa.l1 ai 0 C C C C C C C C C (by rw [bk];omega) ag ?_;refine bD ?_;rw [aC];refine aa.shr _ C C C C C C ag (r6 hm) ?_;refine aa.bits _ C C C C C C (uQ (n:=1) (aj6 (ao1 _ (v % 64)) (mc f 0 64)) ag) ?_;refine eA ?_;refine Fin.cG I C (aU.of_eq (ae7 af.bool ?_));rw [Jv,oN,g7 hm,f5];congr 1;omega
 ·refine bD ?_
  refine aa.l1 ai 1 C C C C C C C C C (by rw [bk];omega) ag ?_;refine bD ?_;rw [aC];refine aa.shr _ C C C C C C ag (r6 hm) ?_;refine aa.bits _ C C C C C C (uQ (n:=1) (aj6 (ao1 _ (v % 64)) (mc f 64 64)) ag) ?_;refine eA ?_;refine Fin.cG I C (aU.of_eq (ae7 af.bool ?_));rw [Jv,oN,g7 hm,f5];congr 1;omega
theorem PO (f:Nat→Bool) (v:Nat) (au:v<128):aV d0 60 [lj f,.int .i64 (v:Int)] (lj (fun u=>f u||u==v)):=by
 have an:=bG;refine aV.bl ai Tryz.func60 C C fun s I=>?_
 unfold lj;have bk:=PM (v:=v) ag;have aC:=PN v;have hm:=Nat.mod_lt v (show 64>0 by omega);have gH:2^(v % 64)<2^64:=ai4 ag hm;by_cases h:v<64
 ·have jD:=PK f 0 64 (v % 64) hm
  rw [show (fun u=>f u||u==0+v % 64)=(fun u=>f u||u==v) by funext u;congr 2;omega] at jD;have cd:fU (fun u=>f u||u==v) 64 64=fU f 64 64:=PL fun i aN=>by
   rw [show (64+i==v)=false by simp;omega,an0]
  rw [cd,← jD]
  repeat (first|(refine r2 ?_)|refine aa.jV I C C C C C C (fun b I=>?_)|refine aa.dK ai I C C C C C C C (fun cA I=>?_)|(refine Lx ?_))
  refine aM.arr ai 0 C C C C C C C C C (by rw [bk];omega) ag ?_;refine cv I ?_;intro I;rw [aC];refine aM.shl _ C C C C C C ag (Dw hm) ?_;refine aM.bits _ C C C C C C (wL (mc f 0 64) gH) ?_;refine aM.arr ai 0 C C C C C C C C C (by rw [bk];omega) ag ?_;refine cv I ?_;intro I;exact Fin.cG I (o6 C C (bo.get aZ I) C) aO
 ·have jD:=PK f 64 64 (v % 64) hm
  rw [show (fun u=>f u||u==64+v % 64)=(fun u=>f u||u==v) by funext u;congr 2;omega] at jD;have cd:fU (fun u=>f u||u==v) 0 64=fU f 0 64:=PL fun i aN=>by
   rw [show (0+i==v)=false by simp;omega,an0]
  rw [cd,← jD]
  repeat (first|(refine r2 ?_)|refine aa.jV I C C C C C C (fun b I=>?_)|refine aa.dK ai I C C C C C C C (fun cA I=>?_)|(refine Lx ?_))
  refine aM.arr ai 1 C C C C C C C C C (by rw [bk];omega) ag ?_;refine cv I ?_;intro I;rw [aC];refine aM.shl _ C C C C C C ag (Dw hm) ?_;refine aM.bits _ C C C C C C (wL (mc f 64 64) gH) ?_;refine aM.arr ai 1 C C C C C C C C C (by rw [bk];omega) ag ?_;refine cv I ?_;intro I;exact Fin.cG I (o6 C C (bo.get aZ I) C) aO
def B9 (p:bR) (n:Int) (l:List ao) (vs:List Nat):List (af×af):=vs.map fun v:Nat=>(.int .i64 (v:Int),bg (c' p n l v))
def jf (vs:List Nat):List af:=vs.map fun v:Nat => .int .i64 (v:Int)
theorem PQ (g:Nat→af) (x:af) (v:Nat):∀ vs:List Nat,v∉vs→lR (vs.map fun u:Nat=>(.int .i64 (u:Int),g u)) (.int .i64 (v:Int)) x=some ((vs.map fun u:Nat=>(.int .i64 (u:Int),g u))++[(.int .i64 (v:Int),x)])
  | [],_=>rfl
  | u::r,h=>by
    have hu:((v:Int)==(u:Int))=false:=by
      rw [beq_eq_false_iff_ne];intro he;exact h (by rw [show v=u by omega];exact i8)
    rw [ae2,lR];simp only [j9,ag7,hu,PQ g x v r (fun hm=>h (i6 _ hm)),ad']
theorem EP (g:Nat→af) (v:Nat):∀ vs:List Nat,iX (vs.map fun u:Nat=>(.int .i64 (u:Int),g u)) (.int .i64 (v:Int))=some (if vs.contains v then some (g v) else none)
  | []=>rfl
  | u::r=>by
    rw [ae2,iX];by_cases h:u=v
    · subst h
      simp [j9]
    · have hu:((v:Int)==(u:Int))=false:=by
        rw [beq_eq_false_iff_ne];omega
      simp only [j9,ag7,hu,EP g v r,List.contains_cons];rw [show (v==u)=false by rw [beq_eq_false_iff_ne];omega,ah1]
theorem ER {c:Nat} (h:c≤7):ad5 .i64 (1*2^(min (c:Int).toNat (am5 .i64)))=((2^c:Nat):Int):=by
 have U:min (c:Int).toNat (am5 .i64)=c:=by simp [am5];omega
 rw [U];have ad:(1*2^c:Int)=((2^c:Nat):Int):=by push_cast;omega
 have aj:2^c<2^63:=ai4 ag ag;rw [ad,GQ aj]
def oO (w:bx) (l:List ao) (v:Nat):List Nat:=(ah0 v).filter (nd w l)
theorem PR (w:bx) (l:List ao) (v:Nat):oO w l (v+1)=oO w l v++(if nd w l v then [v] else []):=by
 unfold oO;rw [as2,aq3,aj5];rfl
theorem aay (w:bx) (l:List ao) (v:Nat):v∉oO w l v:=fun h=>by
 have:=aj8.1 (ae3.1 h).1;omega
theorem PS (w:bx) (l:List ao) (v:Nat):(oO w l v).length≤v:=by
 have:=aj1 (nd w l) (ah0 v);rw [ap6] at this;exact this
theorem Jw (p:bR) (aD:gC p) (eD:gu p=true) (n:Int) (l:List ao) (an cH ct:Nat) (gj:l.length≤7) (de:jA (bT p) l) (eM:l.Nodup) (fJ:BM p n l) :
  bF d0 59 [.ptr ct 0] [eE p n (d' l) (.aB 0 [] .nil) an cH ct,(.own an,.map [])] (fun o K=>o = .ret (.cu [])∧K=[eE p n (d' l) (.aB 1 (jf (e6 (bT p) l)) .bc) an cH ct,(.own an,.map (B9 p n l (e6 (bT p) l)))]):=by
 have n6:bB=1099511627776:=rfl;have ua:2^l.length≤2^7:=ah7 ag gj;have rn:=fun vs v h=>PH p eD n l vs an cH ct gj de eM v h
 have ES:=fun vs v h=>OC p aD eD n l vs an cH ct gj de fJ v h
 have yM:e6 (bT p) l=oO (bT p) l (2^l.length):=rfl;refine bF.bl ai Tryz.func59 C C fun s I=>?_
 unfold eE eu d' at *;refine cv I ?_;intro I;refine aa.shl ((2^l.length:Nat):Int) C C C C C C ag (by rw [f0];exact ER gj) ?_;refine dL ?_;refine ae.ih I 3 1 0 fun I=>?_
 refine ae.ru I (eu p n (d' l) (.aB 1 (jf []) .nil) an cH) (kb:=ct) aZ (by
  unfold eu d'
  repeat (first|exact cR.nil|refine cR.cons (by first|exact aO|exact aU.nil hk) ?_)) (fun I=>?_)
 unfold eu d' at I ⊢;refine ae.b9 [0,8] C I (σ:=Nat×bQ) (fun q=>[(9,.int .i64 (q.1:Int))]) (fun q=>[(q.2,.row 3 1 (oO (bT p) l q.1).length),eE p n (d' l) (.aB 1 (jf (oO (bT p) l q.1)) q.2) an cH ct,(.own an,.map (B9 p n l (oO (bT p) l q.1)))]) (fun q=>q.1≤2^l.length) (fun q=>2^l.length-q.1) (0,.nil)
  (g8 _) (cz C) xJ ?_
 rintro ⟨v,gA⟩ au I;simp only [eE,eu,d',jf,B9] at au I ⊢;refine b8 ?_;refine ae.cond C (fun aw=>?_) (fun aY=>?_);rotate_left
 ·have aY:v=2^l.length:=Nat.le_antisymm au (Int.ofNat_le.1 (Int.not_lt.1 (of_decide_eq_false aY)))
  subst aY;rw [yM]
  refine ae.ru I (eu p n (d' l) (.aB 1 (jf (oO (bT p) l (2^l.length))) .bc) an cH) (kb:=ct) aZ (by
   unfold eu d'
   repeat (first|exact cR.nil|refine cR.cons (by first|exact aO|exact aU.bc) ?_)) (fun I=>?_)
  refine ef ?_;exact Fin.bt I C aO xJ ⟨rfl,rfl⟩
 have aw:v<2^l.length:=aA0.1 (ai9 aw);have Jx:=fun vs=>rn vs v ag
 have ET:=fun vs=>ES vs v ag
 have vz:=PR (bT p) l v;have fs:=PS (bT p) l v;refine bD ?_;refine aa.b7 rfl rfl rfl rfl rfl (Jx (.aB 1 ((oO (bT p) l v).map fun v:Nat => .int .i64 (v:Int)) gA)) I a1 ?_ (fun _ _ ⟨h,_⟩ _=>by cases h);rintro _ _ ⟨⟨⟩,rfl⟩ I;simp only [d8,ad'] at I ⊢;cases w0:nd (bT p) l v with
 | false=>
  rw [w0,d9 ba,d7] at vz;refine bD ?_;exact bp.mk (v+1,gA) I aw ck (by simp only [vz];exact a1) (by show 2^l.length-(v+1)<2^l.length-v;omega)
 | true=>
  rw [w0,g6 C] at vz;refine cv I ?_;intro I;refine aa.gn ai I C C C C C C C er C C C C C C C C aZ hy ki ag (fun b0 I=>?_);refine cv I ?_;intro I;have aaz:=ET (.aB 1 ((oO (bT p) l v).map (fun v:Nat=>af.int .i64 (v:Int))++[.int .i64 (v:Int)]) (.own b0));have AL:=PQ (fun v=>bg (c' p n l v)) (bg (c' p n l v)) v _ (aay (bT p) l v);refine ae.qS (dI [(ct,_)]) ai mixed C (bm.run (dI.one (bo.get aZ I)) C ?_);refine bm.oa 3 ai (dI.one (bo.get aZ I)) C C C C C C C C (fun _ h=>dI.fst h) bZ ?_;refine bm.run (dI.one (bo.get aZ I)) C ?_;refine bm.b7 rfl rfl rfl rfl rfl rfl rfl aaz I a1 (fun _ _ h I=>by obtain ⟨-,rfl⟩:=h;exact .inl (dI.one (bo.get .here I))) ?_ (fun _ _ ⟨h,_⟩ _=>by cases h);rintro _ _ ⟨⟨⟩,rfl⟩ I;simp only [d8,ad'] at I ⊢;refine bm.run (dI.one (bo.get aZ I)) C ?_;refine bm.mX 8 ai I C C C C (.inl C) C C C C C C aZ C AL (fun _ => .inr C) (fun I=>?_);refine bd.done C ?_;refine gr ?_;exact bp.mk (v+1,.own b0) I aw ck (by simp only [vz,ae1,ae2,ah2,f8,i0,af7];exact a1) (by show 2^l.length-(v+1)<2^l.length-v;omega)
theorem aaA (l:List ao) (f:ao):(kn l f).any (fun y=>h3 y f)=true:=by
 unfold kn;split
 ·assumption
 ·rw [ax5];simp [Pw]
theorem aaB {l:List ao} {f x:ao} (h:l.any (fun y=>h3 y x)=true):(kn l f).any (fun y=>h3 y x)=true:=by
 unfold kn;split
 ·exact h
 ·rw [ax5,h];rfl
theorem Jy {x:ao}:∀ (c3 l:List ao),l.any (fun y=>h3 y x)=true→(c3.foldl kn l).any (fun y=>h3 y x)=true
 | [],_,h=>h
 | a::r,l,h=>Jy r _ (aaB h)
theorem PT {x:ao}:∀ (c3 l:List ao),x∈c3→(c3.foldl kn l).any (fun y=>h3 y x)=true
  | a::r,l,h=>by
    rw [ah4];rcases af1.1 h with rfl|h
    · exact Jy r _ (aaA l x)
    · exact PT r _ h
theorem PU {gen:Int} {x:ao}:∀ (ms:List hS) (l:List ao),l.any (fun y=>h3 y x)=true→(ms.foldl (l8 gen) l).any (fun y=>h3 y x)=true
 | [],_,h=>h
 | m::r,l,h=>PU r _ (by unfold l8;split;exact Jy _ _ h;exact h)
theorem PV {gen:Int} {x:ao}:∀ (ms:List hS) (l:List ao) (m:hS),m∈ms→m.gen=gen→x∈mJ m.fact→(ms.foldl (l8 gen) l).any (fun y=>h3 y x)=true
  | a::r,l,m,h,av,ab=>by
    rw [ah4];rcases af1.1 h with rfl|h
    · exact PU r _ (by unfold l8;rw [g6 av];exact PT _ _ ab)
    · exact PV r _ m h av ab
theorem aaC (p:bR) (gen:Int):BM p gen (ca p gen):=fun m hm av x ab=>PV p.methods [] m hm av ab
theorem aaD {p:bR} {gen:Int} (h:hc p gen=0):gu p=true∧px p gen=true∧(ca p gen).length≤7:=by
 unfold hc at h;split at h
 ·rename_i U
  rw [f9] at U;split at h
  ·exact ⟨U.1,U.2,by assumption⟩
  ·omega
 ·omega
theorem xP {w:bx} {l:List ao} {v:Nat} (h:v∈e6 w l):v<2^l.length:=by
 unfold e6 at h;exact aj8.1 (ae3.1 h).1
theorem B' (w:bx) (l:List ao):(e6 w l).length≤2^l.length:=by
 unfold e6;have:=aj1 (nd w l) (ah0 (2^l.length));rw [ap6] at this;exact this
def Jz (p:bR) (n:Int):af := .cu [if hc p n=0 then d' (ca p n) else .aB 0 [] .nil,.int .i64 (hc p n)]
def EU (p:bR) (n:Int):af := .cu [if hc p n=0 then .aB 1 (jf (e6 (bT p) (ca p n))) .bc else .aB 0 [] .nil,.int .i64 (hc p n)]
def EV (p:bR) (n v:Int):Bool:=decide (0≤v)&&(decide (v<((2^(ca p n).length:Nat):Int))&&nd (bT p) (ca p n) v.toNat)
def xQ (p:bR) (n v:Int):Int:=if hc p n=0 then (if EV p n v then 0 else 5) else hc p n
def EW (p:bR) (n v:Int):af := .cu [if xQ p n v=0 then bg (c' p n (ca p n) v.toNat) else .aB 0 [] .nil,.int .i64 (xQ p n v)]
theorem vA {p:bR} {n:Int} (he:hc p n=0):gu p=true∧(ca p n).length≤7∧jA (bT p) (ca p n)∧(ca p n).Nodup∧BM p n (ca p n):=by
 obtain ⟨U,-,ad⟩:=aaD he;exact ⟨U,ad,(YO U n).1,aah p n,aaC p n⟩
theorem aaE (p:bR) (aD:gC p) (n:Int):aV d0 25 [c9 p,.int .i64 n] (Jz p n):=by
 have an:=bG;refine aV.bl ai Tryz.func25 C C fun s I=>?_
 have aR:=BI p aD n;unfold Jz;unfold c9 c1 at *;refine dF ?_;refine aa.b7 rfl rfl rfl rfl rfl aR I .nil ?_ (fun _ _ h _=>by rcases h with ⟨_,_,_,_,h,_⟩|⟨_,⟨_,h⟩,_⟩<;>cases h);rintro _ _ (⟨he,ct,an,cH,⟨⟩,rfl⟩|⟨he,⟨v,⟨⟩⟩,rfl⟩) I
 ·rw [he,g6 C]
  simp only [ad',d8] at I ⊢;unfold eu d' at *;refine gK I ?_;intro I;exact bA I
 ·rw [d9 he]
  simp only [d8] at I ⊢;refine eg ?_;refine ae.cond C (fun _=>?_) (fun h=>absurd fV he);refine gT ?_;exact bA I
theorem PW (p:bR) (aD:gC p) (n:Int):aV d0 27 [c9 p,.int .i64 n] (EU p n):=by
 have an:=bG;refine aV.bl ai Tryz.func27 C C fun s I=>?_
 have aR:=BI p aD n;unfold EU;unfold c9 c1 at *;refine dF ?_;refine aa.b7 rfl rfl rfl rfl rfl aR I .nil ?_ (fun _ _ h _=>by rcases h with ⟨_,_,_,_,h,_⟩|⟨_,⟨_,h⟩,_⟩<;>cases h);rintro _ _ (⟨he,ct,an,cH,⟨⟩,rfl⟩|⟨he,⟨v,⟨⟩⟩,rfl⟩) I
 ·rw [he,g6 C]
  obtain ⟨eD,gj,de,eM,fJ⟩:=vA he;have lG:=Jw p aD eD n (ca p n) an cH ct gj de eM fJ;simp only [ad',d8] at I ⊢;unfold eE eu d' at *;refine bD ?_;refine aa.b7 rfl rfl rfl rfl rfl lG I a1 ?_ (fun _ _ ⟨h,_⟩ _=>by cases h);rintro _ _ ⟨⟨⟩,rfl⟩ I;simp only [ad',d8] at I ⊢;refine cv I ?_;intro I;exact bA I
 ·rw [d9 he]
  simp only [d8] at I ⊢;refine eg ?_;refine ae.cond C (fun _=>?_) (fun h=>absurd fV he);refine gT ?_;exact bA I
theorem JA (p:bR) (aD:gC p) (n v:Int):aV d0 29 [c9 p,.int .i64 n,.int .i64 v] (EW p n v):=by
 have an:=bG;refine aV.bl ai Tryz.func29 C C fun s I=>?_
 have aR:=BI p aD n;have hm:xQ p n v=if hc p n=0 then (if EV p n v then 0 else 5) else hc p n:=rfl
 unfold EW;unfold c9 c1 at *;refine dF ?_;refine aa.b7 rfl rfl rfl rfl rfl aR I .nil ?_ (fun _ _ h _=>by rcases h with ⟨_,_,_,_,h,_⟩|⟨_,⟨_,h⟩,_⟩<;>cases h);rintro _ _ (⟨he,ct,an,cH,⟨⟩,rfl⟩|⟨he,⟨v,⟨⟩⟩,rfl⟩) I
 ·obtain ⟨eD,gj,de,eM,fJ⟩:=vA he
  have ua:2^(ca p n).length≤2^7:=ah7 ag gj;rw [g6 he] at hm;have au:EV p n v=(decide (0≤v)&&(decide (v<((2^(ca p n).length:Nat):Int))&&nd (bT p) (ca p n) v.toNat)):=rfl;simp only [ad',d8] at I ⊢;unfold eu d' at I ⊢;refine bD ?_;by_cases U:v<0
  ·refine aa.dy 23 C (g7 U) ?_
   rw [au,show decide (0≤v)=false by simp;omega,f6,d9 ba] at hm;rw [hm,d9 ba];refine e8 ?_;exact bA I
  refine aa.da 23 C (H1 U) ?_;obtain ⟨u,rfl⟩:∃ u:Nat,v=u:=⟨v.toNat,by omega⟩;rw [g7 (Int.natCast_nonneg u),f5,i9] at au;rw [i9];refine cv I ?_;intro I;refine aa.shl ((2^(ca p n).length:Nat):Int) C C C C C C ag (by rw [f0];exact ER gj) ?_;refine ep ?_;by_cases ad:(u:Int)<((2^(ca p n).length:Nat):Int);rotate_left
  ·refine aa.dy 33 C (g7 (Int.not_lt.1 ad)) ?_
   rw [au,H1 ad,f6,d9 ba] at hm;rw [hm,d9 ba];refine e8 ?_;exact bA I
  refine aa.da 33 C (H1 (Int.not_le.2 ad)) ?_;have aj:u<2^(ca p n).length:=aA0.1 ad;rw [g7 ad,f5] at au;have rn:=PH p eD n (ca p n) (.aB 0 [] .nil) an cH ct gj de eM u ag;have ES:=OC p aD eD n (ca p n) (.aB 0 [] .nil) an cH ct gj de fJ u ag;unfold eE eu d' at rn ES;refine ep ?_;refine aa.b7 rfl rfl rfl rfl rfl rn I a1 ?_ (fun _ _ ⟨h,_⟩ _=>by cases h);rintro _ _ ⟨⟨⟩,rfl⟩ I;simp only [ad',d8] at I ⊢;cases aF:nd (bT p) (ca p n) u with
  | false=>
   rw [au,aF,d9 ba] at hm;rw [hm,d9 ba];refine e8 ?_;exact bA I
  | true=>
   rw [au,aF,g6 C] at hm;rw [hm,g6 C];refine bD ?_;refine aa.b7 rfl rfl rfl rfl rfl ES I a1 ?_ (fun _ _ ⟨h,_⟩ _=>by cases h);rintro _ _ ⟨⟨⟩,rfl⟩ I;simp only [ad',d8] at I ⊢;refine eA ?_;exact bA I
 ·rw [d9 he] at hm
  rw [hm,d9 he];simp only [d8] at I ⊢;refine bD ?_;refine ae.cond C (fun _=>?_) (fun h=>absurd fV he);refine js ?_;exact bA I
def qq (p:bR) (n:Int) (l:List ao) (an cH ct:Nat) (vs:List Nat):a8:=[eE p n (d' l) (.aB 1 (jf vs) .bc) an cH ct,(.own an,.map (B9 p n l vs))]
def aaF:Option Nat→Int
 | none => -1
 | some v=>v
theorem PX (g:Nat→af):∀ vs:List Nat,iX (vs.map fun u:Nat=>(.int .i64 (u:Int),g u)) (.int .i64 (-1))=some none
  | []=>rfl
  | u::r=>by
    rw [ae2,iX];have hu:((-1:Int)==(u:Int))=false:=by rw [beq_eq_false_iff_ne];omega
    simp only [j9,ag7,hu,PX g r]
def aaG (h:Nat→List Int) (vs rest:List Nat):Option Nat→Prop
 | none=>vs=rest
 | some v=>nO h vs=rest.all (fun u=>h u==h v)∧firstM h vs=h v
theorem aaH (p:bR) (n:Int) (l:List ao) (an cH ct:Nat) (vs:List Nat) (eO:∀ v∈vs,v<128) (fs:vs.length≤128) (hR:p.methods.length≤16) (q:Nat→Bool) :
    bF d0 105 [.ptr ct 0,lj q] (qq p n l an cH ct vs) (fun o K=>o = .ret (if nO (c' p n l) (vs.filter q) then .cu [bg (firstM (c' p n l) (vs.filter q)),.bool true] else .cu [.aB 0 [] .nil,.bool false])∧K=qq p n l an cH ct vs):=by
  have n6:bB=1099511627776:=rfl;have tT:=fun v h=>aax q v h
  have PY:=fun v=>xC n l v p.methods 0
  refine bF.bl ai Tryz.func105 C C fun s I=>?_
  unfold qq eE eu d' at *;refine gK I ?_;intro I;refine ae.b9 [0,3,12,13] C I (σ:=Nat×Option Nat) (fun x=>[(14,.int .i64 (x.1:Int)),(6,.int .i64 (aaF x.2))]) (fun _=>qq p n l an cH ct vs) (fun x=>x.1≤vs.length∧(∀ v,x.2=some v→v∈vs)∧aaG (c' p n l) (vs.filter q) ((vs.drop x.1).filter q) x.2) (fun x=>vs.length-x.1) (0,none)
    ⟨g8 _,(fun _ h=>by cases h),rfl⟩ (cz rfl) (by simp only [qq,eE,eu,d'];exact a1) ?_
  rintro ⟨j,fst⟩ ⟨aH,a7,aq⟩ I;simp only [qq,eE,eu,d'] at aH a7 aq I ⊢;refine b8 ?_;refine ae.cond C (fun aw=>?_) (fun aY=>?_);rotate_left
  · have aY:j=vs.length:=by simp [jf] at aY;omega
    rw [eG ag,at9] at aq;cases fst with
    | none=>
      have aq:vs.filter q=[]:=aq;rw [aq,nO,firstM,g6 C];have av:=PX (fun v=>bg (c' p n l v)) vs;refine cv I ?_;intro I;refine aa.jr ai I C C C C C C C C C C aZ C av C ?_;refine eA ?_;exact Fin.bt I C (aU.cu (.cons aU.empty (.cons aO .nil))) (aI.all _) ⟨rfl,rfl⟩
    | some v=>
      obtain ⟨U,ad⟩:=aq;rw [U,ad,ap3,g6 C];have av:=EP (fun v=>bg (c' p n l v)) v vs;rw [g6 (by simpa using a7 v C)] at av;refine cv I ?_;intro I;refine aa.jr ai I C C C C C C C C C C aZ C av C ?_;refine eA ?_;exact Fin.bt I C aO (aI.all _) ⟨rfl,rfl⟩
  have aw:j<vs.length:=by simpa [jf] using aw
  obtain ⟨x,ab,bP⟩:=b5 (f:=fun v:Nat=>af.int .i64 (v:Int)) aw;have xR:=d6 ab;have aaI:=eO x xR;have cY:=tT x aaI;rw [drop_cons ab,aj5] at aq;unfold jf at *;refine db ?_;cases bk:q x with
  | false=>
    rw [bk,d9 ba] at aq;refine bD ?_;exact bp.mk (j+1,fst) I ⟨aw,a7,aq⟩ ck a1 zl
  | true=>
    rw [bk,g6 C] at aq;cases fst with
    | none=>
      refine bD ?_
      exact bp.mk (j+1,some x) I ⟨aw,(fun v h=>by cases h;exact xR),by
        have aq:vs.filter q=_:=aq
        refine ⟨?_,?_⟩
        · rw [aq];rfl
        · rw [aq];rfl⟩ ck a1 zl
    | some v=>
      obtain ⟨U,ad⟩:=aq;rw [ak'] at U;have av:=fun u hu=>by
        have:=EP (fun v=>bg (c' p n l v)) u vs;rw [g6 (by simpa using hu)] at this;exact this
      have BH:=av x xR;have Dd:=av v (a7 v C);have heq:=uS (c' p n l x) (c' p n l v) (by have:=PY x;unfold c';omega) (by have:=PY v;unfold c';omega);cases aF:c' p n l x==c' p n l v with
      | false=>
        rw [aF] at heq U;rw [U,f6,d9 ba];refine gK I ?_;intro I;refine aM.jr ai I C C C C C C C C C C aZ C BH C ?_;refine cv I ?_;intro I;refine aM.jr ai I C C C C C C C C C C aZ C Dd C ?_;refine cB ?_;exact Fin.bt I C aO (aI.all _) ⟨rfl,rfl⟩
      | true=>
        rw [aF] at heq U;rw [f5] at U;refine gK I ?_;intro I;refine aM.jr ai I C C C C C C C C C C aZ C BH C ?_;refine cv I ?_;intro I;refine aM.jr ai I C C C C C C C C C C aZ C Dd C ?_;refine cB ?_;exact bp.mk (j+1,some v) I ⟨aw,a7,U,ad⟩ ck a1 zl
theorem aaJ (fv:af) (xs:List Int) (K:a8) (q:Int→Bool) (aE:xs.length<bB) (h:∀ x∈xs,di d0 fv [bb x] K (fun o aP=>o = .ret (.bool (q x))∧aP=K)) :
  bF d0 40 [.aB 1 (xs.map bb) .bc,fv] K (fun o aP=>o = .ret (.bool (xs.any q))∧aP=K):=by
 have:=G6 fv xs (fun _=>K) (fun j=>match xs[j]? with|some x=>q x|none=>false) aE (fun j x ab _=>by rw [ab];exact h x (d6 ab));refine bF.mono this ?_;rintro o aP (⟨rfl,rfl,U⟩|⟨j,U,ad,aj,rfl,rfl⟩)
 ·have:xs.any q=false:=by
   rw [ak3];intro x ab;obtain ⟨i,aN⟩:=ag2 ab;have:=U i (oe aN);rw [aN] at this;simpa using this
  rw [this];exact ⟨rfl,rfl⟩
 ·have ab:=f7 U
  rw [ab] at ad;rw [ag5.2 ⟨_,d6 ab,ad⟩];exact ⟨rfl,rfl⟩
def vB (p:bR) (n:Int) (l:List ao) (g:List bw) (v:Nat):Bool:=(g.getD (leads g v).1.toNat default).ms==c' p n l v
theorem aaK (p:bR) (n:Int) (l:List ao) (an cH ct:Nat) (vs:List Nat) (xB:p.methods.length≤16) (g:List bw) (av:hn g=true) (v:Nat) (au:v∈vs) (aaL:v<2^63) :
  di d0 (.func 121 [] [.br [gW g] 0,.br [.ptr ct 0] 0]) [.int .i64 (v:Int)] (qq p n l an cH ct vs) (fun o K=>o = .ret (.bool (!vB p n l g v))∧K=qq p n l an cH ct vs):=by
 have n6:bB=1099511627776:=rfl;have la:=NH g av v aaL;obtain ⟨j,x,U,ad,-⟩:=NI av v;have hR:=xC n l v p.methods 0;have fg:x.ms.length≤16:=by
  have az:=tB av ad;by_cases aR:x.atom = -1
  ·exact ((m5 aR).1 az).2.2.1
  ·have:=((kk aR).1 az).2.2.2.2.2.2
   omega
 have heq:=uS x.ms (c' p n l v) ag (by unfold c';omega);have AH:vB p n l g v=(x.ms==c' p n l v):=by
  unfold vB;rw [U,i9,d5,ad];rfl
 have tS:=EP (fun v=>bg (c' p n l v)) v vs;rw [g6 (by simpa using au)] at tS;have bP:(g.map e9)[j]? = some (e9 x):=by rw [af3,ad];rfl
 rw [U] at la;refine di.fk (first:=[]) (cap:=[.br [gW g] 0,.br [.ptr ct 0] 0]) ?_;refine bF.bl ai Tryz.func121 C C fun s I=>?_
 unfold qq eE eu d' gW at *;unfold e9 gL at bP;rw [AH];cases aF:x.ms==c' p n l v with
 | true=>
  rw [aF] at heq;refine gK I ?_;intro I;refine aM.jr ai I C C C C C C C C C C aZ C tS C ?_;refine db ?_;exact Fin.bt I C aO (aI.all _) ⟨rfl,rfl⟩
 | false=>
  rw [aF] at heq;refine gK I ?_;intro I;refine aM.jr ai I C C C C C C C C C C aZ C tS C ?_;refine db ?_;exact Fin.bt I C aO (aI.all _) ⟨rfl,rfl⟩
theorem aaM (p:bR) (aD:gC p) (eD:gu p=true) (n:Int) (l:List ao) (an cH ct:Nat) (gj:l.length≤7) (de:jA (bT p) l) (eM:l.Nodup) (fJ:BM p n l) (g:List bw) (av:hn g=true) :
    bF d0 73 [.ptr ct 0,gW g] [eE p n (d' l) (.aB 0 [] .nil) an cH ct,(.own an,.map [])] (fun o K=>o = .ret (.bool (g.all (fun x=>decide (x.atom<(l.length:Int)))&&(e6 (bT p) l).all (vB p n l g)))∧∃ D' m,K=[eE p n (d' l) D' an cH ct,(.own an,.map m)]):=by
  have n6:bB=1099511627776:=rfl;have ua:2^l.length≤2^7:=ah7 ag gj;obtain ⟨pn,po⟩:=wS av;have lG:=Jw p aD eD n l an cH ct gj de eM fJ;have fs:=B' (bT p) l;have eO:∀ v∈e6 (bT p) l,v<2^l.length:=fun v h=>xP h
  have xB:=(xA eD).1;generalize e6 (bT p) l=vs at *
  have mK:=aaJ (.func 121 [] [.br [gW g] 0,.br [.ptr ct 0] 0]) (vs.map fun v:Nat=>(v:Int)) (qq p n l an cH ct vs) (fun z => !vB p n l g z.toNat) nM (fun z bE=>by
    obtain ⟨v,au,rfl⟩:=ag0.1 bE
    have:=eO v au
    exact aaK p n l an cH ct vs xB g av v au ag)
  have EX:(vs.map fun v:Nat=>(v:Int)).map bb=jf vs:=by rw [at1];rfl
  have aaN:(vs.map fun v:Nat=>(v:Int)).any (fun z => !vB p n l g z.toNat) = !vs.all (vB p n l g):=by
    rw [List.any_map,List.all_eq_not_any_not,aA1];rfl
  rw [EX,aaN] at mK;refine bF.bl ai Tryz.func73 C C fun s I=>?_
  unfold qq eE eu d' gW at *;refine gy ?_;refine ae.b9 [2,3,7,8] C I (σ:=Nat) (fun j=>[(9,.int .i64 (j:Int))]) (fun _=>[eE p n (d' l) (.aB 0 [] .nil) an cH ct,(.own an,.map [])]) (fun j=>j≤g.length∧g.all (fun x=>decide (x.atom<(l.length:Int)))=(g.drop j).all (fun x=>decide (x.atom<(l.length:Int)))) (fun j=>g.length-j) 0 ⟨g8 _,rfl⟩ (cz C) xJ ?_;rintro j ⟨aH,aq⟩ I;simp only [eE,eu,d'] at aH aq I ⊢;refine b8 ?_;refine ae.cond C (fun aw=>?_) (fun aY=>?_);rotate_left
  · have aY:j=g.length:=by simp at aY;omega
    rw [eG ag,ap3] at aq;rw [aq,f5];refine bD ?_;refine aa.b7 rfl rfl rfl rfl rfl lG I a1 ?_ (fun _ _ ⟨h,_⟩ _=>by cases h);rintro _ _ ⟨⟨⟩,rfl⟩ I;simp only [ad',d8] at I ⊢;refine cv I ?_;intro I;refine aa.b7 rfl rfl rfl rfl rfl mK I a1 ?_ (fun _ _ ⟨h,_⟩ _=>by cases h);rintro _ _ ⟨⟨⟩,rfl⟩ I;simp only [ad',d8] at I ⊢;refine eA ?_;exact Fin.bt I C (aU.of_eq ba) (aI.all _) ⟨rfl,_,_,rfl⟩
  have aw:j<g.length:=by simpa using aw
  obtain ⟨x,ab,bP⟩:=b5 (f:=e9) aw;rw [drop_cons ab,ak'] at aq;unfold e9 gL bg at bP;refine Gz I ?_;intro I;refine ae.cond C (fun aF=>?_) (fun aF=>?_)
  · rw [show decide (x.atom<(l.length:Int))=false by simp at aF ⊢;omega,f6] at aq
    rw [aq,f6];refine js ?_;exact Fin.bt I C aO (aI.all _) ⟨rfl,_,_,rfl⟩
  · rw [show decide (x.atom<(l.length:Int))=true by simp at aF ⊢;omega,f5] at aq
    refine gr ?_;exact bp.mk (j+1) I ⟨aw,aq⟩ ck a1 wG
theorem aaO (v:Int×Int) (n:Int):aV d0 160 [ga v,.int .i64 n] (.bool (hz n v)):=by
 have an:=bG;refine aV.bl ai Tryz.func160 C C fun s I=>?_
 unfold ga
 repeat' (first|(with_reducible first|apply ae.seq|apply b4|apply fQ|apply fA|apply hj|apply ae.ret|apply ae.skip|apply ae.block)|refine c5 C ?_|refine ae.cJ ?_|refine aa.nil ?_|refine cD C ?_|refine aa.skip C C C ?_|(fail_if_success refine aa.same true C ?_);(fail_if_success refine aa.same false C ?_);refine aa.hG C C (fun h=>?_) (fun h=>?_)|refine ae.cond C (fun h=>?_) (fun h=>?_))
 all_goals (refine Fin.cG I C (aU.of_eq (ae7 af.bool ?_));clear I;simp only [hz,kF];grind)
theorem aaP (fv:af) (q:Int→Bool) (xs:List Int) (aE:xs.length<bB) (h:∀ x∈xs,eC d0 fv [bb x] (.bool (q x))):aV d0 161 [.aB 1 (xs.map bb) .bc,fv] (.aB 1 ((xs.filter q).map bb) .bc):=by
 have an:=bG;refine aV.bl ai Tryz.func161 C C fun s I=>?_
 refine gy ?_;refine ae.ih I 3 1 0 fun I=>?_
 refine ae.b9 [0,1,8,9] C I (σ:=Nat×List Int×bQ) (fun p=>[(10,.int .i64 (p.1:Int)),(5,.aB 1 (p.2.1.map bb) p.2.2)]) (fun p=>[(p.2.2,.row 3 1 p.2.1.length)]) (fun p=>p.1≤xs.length∧p.2.1.length≤p.1∧xs.filter q=p.2.1++(xs.drop p.1).filter q) (fun p=>xs.length-p.1) (0,[],.nil)
  ⟨g8 _,g9 _,rfl⟩ ⟨⟨_,rfl,aO⟩,⟨_,rfl,aU.nil hk⟩,trivial⟩ a1 ?_
 rintro ⟨j,out,gA⟩ ⟨aH,gz,aq⟩ I;simp only at aH gz aq I ⊢;refine b8 ?_;refine ae.cond C (fun aw=>?_) (fun aY=>?_);rotate_left
 ·have aY:j=xs.length:=by simp at aY;omega
  rw [eG ag,at9,d7] at aq;rw [aq];have cj:=Hv (out.map bb) gA;refine db ?_;exact Fin.cG I C aU.bc
 have aw:j<xs.length:=by simpa using aw
 obtain ⟨x,ab,bP⟩:=b5 (f:=bb) aw;have au:=h x (d6 ab);rw [drop_cons ab,aj5] at aq
 try rw [bb] at au bP
 refine db ?_;cases bk:q x with
 | true=>
  rw [bk] at aq au;rw [g6 C] at aq;refine bD ?_;refine aa.gn ai I C C C C C C C er C C C C C C C C aZ hy ki ag (fun b0 I=>?_);refine gf ?_;exact bp.mk (j+1,out++[x],.own b0) I ⟨aw,by simp;omega,by rw [aq];simp⟩ Av Pl r3
 | false=>
  rw [bk] at aq au;rw [d9 ba] at aq;refine kh ?_;exact bp.mk (j+1,out,gA) I ⟨aw,by show out.length≤j+1;omega,aq⟩ ck a1 r3
theorem aaQ (fv:af) (q:(Int×Int)→Bool) (xs:List (Int×Int)) (aE:xs.length<bB) (h:∀ x∈xs,eC d0 fv [ga x] (.bool (q x))):aV d0 158 [.aB 2 (xs.map ga) .bc,fv] (.aB 2 ((xs.filter q).map ga) .bc):=by
 have an:=bG;refine aV.bl ai Tryz.func158 C C fun s I=>?_
 refine gy ?_;refine ae.ih I 122 2 0 fun I=>?_
 refine ae.b9 [0,1,8,9] C I (σ:=Nat×List (Int×Int)×bQ) (fun p=>[(10,.int .i64 (p.1:Int)),(5,.aB 2 (p.2.1.map ga) p.2.2)]) (fun p=>[(p.2.2,.row 122 2 p.2.1.length)]) (fun p=>p.1≤xs.length∧p.2.1.length≤p.1∧xs.filter q=p.2.1++(xs.drop p.1).filter q) (fun p=>xs.length-p.1) (0,[],.nil)
  ⟨g8 _,g9 _,rfl⟩ ⟨⟨_,rfl,aO⟩,⟨_,rfl,aU.nil hk⟩,trivial⟩ a1 ?_
 rintro ⟨j,out,gA⟩ ⟨aH,gz,aq⟩ I;simp only at aH gz aq I ⊢;refine b8 ?_;refine ae.cond C (fun aw=>?_) (fun aY=>?_);rotate_left
 ·have aY:j=xs.length:=by simp at aY;omega
  rw [eG ag,at9,d7] at aq;rw [aq];have cj:=Vw (out.map ga) gA;refine db ?_;exact Fin.cG I C aU.bc
 have aw:j<xs.length:=by simpa using aw
 obtain ⟨x,ab,bP⟩:=b5 (f:=ga) aw;have au:=h x (d6 ab);rw [drop_cons ab,aj5] at aq
 try rw [ga] at au bP
 refine dY ?_;cases bk:q x with
 | true=>
  rw [bk] at aq au;rw [g6 C] at aq;refine bD ?_;refine aa.gn ai I C C C C C C C er C C C C C C C C aZ hy (by show (_+1)*16≤_;omega) ag (fun b0 I=>?_);refine gf ?_;exact bp.mk (j+1,out++[x],.own b0) I ⟨aw,by simp;omega,by rw [aq];simp⟩ Av Pl r3
 | false=>
  rw [bk] at aq au;rw [d9 ba] at aq;refine kh ?_;exact bp.mk (j+1,out,gA) I ⟨aw,by show out.length≤j+1;omega,aq⟩ ck a1 r3
def mL (p:bR) (mb:Nat):List af:=c1 p++(fl (bT p)++[.map mb])
theorem aaR (p:bR) (mb:Nat) (n:Int):aV d0 157 [.br (mL p mb) 0,.int .i64 n] (.bool (px p n)):=by
 have an:=bG;refine aV.bl ai Tryz.func157 C C fun s I=>?_
 unfold mL c1 fl px bg;by_cases U:n≥0
 ·rw [g7 U,f5]
  refine dF ?_;refine aa.dy 11 C (g7 U) ?_;refine eA ?_;refine Fin.cG I C (aU.of_eq (ae7 af.bool ?_));rw [f0]
 ·rw [H1 U,f6]
  refine dF ?_;refine aa.da 11 C (H1 U) ?_;refine eg ?_;exact bA I
theorem aaS (n:Int):aV d0 157 [.qx,.int .i64 n] (.bool false):=by
 have an:=bG;refine aV.bl ai Tryz.func157 C C fun s I=>?_
 refine gT ?_;exact bA I
theorem aaT (bh:List eH) (v:Int×Int):eC d0 (.func 159 [] [.br [ho bh] 0]) [ga v] (.bool (hz bh.length v)):=by
 have an:=bG;refine eC.fk (first:=[]) (cap:=[.br [ho bh] 0]) ?_;refine aV.bl ai Tryz.func159 C C fun s I=>?_
 have h:=aaO v (bh.map iT).length;rw [show hz ((bh.map iT).length:Int) v=hz bh.length v by rw [f0]] at h;unfold ga at *;refine cB ?_;exact bA I
def vf (p:bR) (bh:List eH) (n:Int) (args:List (Int×Int)):Bool:=px p n&&(decide ((args.length:Int)=p.dV.getD n.toNat 0)&&oj (bT p) bh args)
theorem aaU (w:bx):h' w (.mk 1 0 [] 0 0 [])=true:=by
 unfold h';rw [e1,d9 ba,g6 (by rfl),gV]
theorem aaV (w:bx) (bh:List eH) (args:List (Int×Int)):(nL w (.mk 1 0 [] 0 0 []) bh args).2=if oj w bh args then 0 else 2:=by
 unfold nL;rw [aaU,f5,show decide (lB (.mk 1 0 [] 0 0 [])≤(args.length:Int))=true by simp [lB,hH,ao.c0,ao.op],aq9];split<;>rfl
theorem aaW (p:bR) (aD:gC p) (bu:gu p=false):aV d0 118 [c9 p] (.qx):=by
 have an:=bG;refine aV.bl ai Tryz.func118 C C fun s I=>?_
 have hw:=Iw p aD;rw [bu] at hw;simp only [af6,ah9] at hw;unfold c9 c1 at *;refine dY ?_;exact bA I
theorem aaX (p:bR) (aD:gC p) (eD:gu p=true) (mb:Nat) (n:Int) (bh:List eH) (args:List (Int×Int)) (aE:bh.length<bB) (ah:∀ o∈bh,o.bn.length<bB) (aR:args.length<bB) :
  aV d0 119 [.br (mL p mb) 0,ho bh,.int .i64 n,k6 args] (.bool (vf p bh n args)):=by
 have an:=bG;have PZ:=aaR p mb n;have aaY:=aaQ (.func 159 [] [.br [ho bh] 0]) (hz bh.length) args aR (fun v _=>aaT bh v);have qs:=HB (bT p) (xy eD) (.mk 1 0 [] 0 0 []) ec bh args aE ah aR;have aaZ:=aaV (bT p) bh args;have nk:vf p bh n args=(px p n&&(decide ((args.length:Int)=p.dV.getD n.toNat 0)&&oj (bT p) bh args)):=rfl;refine aV.bl ai Tryz.func119 C C fun s I=>?_
 rw [ao.cp] at qs;unfold ao.cells fh at qs;cases av:px p n with
 | false=>
  rw [av] at PZ nk;rw [nk,f6];unfold mL c1 fl ho k6 at *;refine cB ?_;exact bA I
 | true=>
  rw [av] at PZ nk;rw [f5] at nk;unfold px at av;simp only [f9,i7] at av;obtain ⟨c,rfl⟩:∃ c:Nat,n=c:=⟨n.toNat,by omega⟩;obtain ⟨a,tS,adD⟩:=b5 (f:=bb) (l:=p.dV) (show c<p.dV.length by omega);have kY:p.dV.getD ((c:Nat):Int).toNat 0=a:=by rw [i9,d5,tS];rfl
  rw [kY] at nk;unfold mL c1 fl ho k6 bg at *;refine cB ?_;by_cases eY:(args.length:Int)=a;rotate_left
  ·refine aa.dy 28 C cP ?_
   rw [nk,H1 eY,f6];refine eg ?_;exact bA I
  refine aa.da 28 C cP ?_;rw [g7 eY,f5] at nk;cases fJ:args.all (hz bh.length) with
  | false=>
   have aa0:oj (bT p) bh args=false:=by
    unfold oj;rw [fJ];simp
   rw [aa0] at nk;rw [nk];have aw:(args.filter (hz bh.length)).length<args.length:=by
    rw [List.length_filter_lt_length_iff_exists];obtain ⟨x,ab,h⟩:=List.all_eq_false.1 fJ;exact ⟨x,ab,h⟩
   refine db ?_;refine ae.cond C (fun _=>?_) (fun h=>by simp at h;omega);refine gT ?_;exact bA I
  | true=>
   have jx:args.filter (hz bh.length)=args:=az4.2 (ag6.1 fJ);rw [jx] at aaY;rw [aaZ] at qs;refine db ?_;refine ae.cond C (fun h=>by simp at h) (fun _=>?_);cases cY:oj (bT p) bh args with
   | false=>
    rw [cY] at nk qs;simp only [af6,ah9] at qs;rw [nk];refine qZ ?_;refine aM.lx C C C C C qs (.cons aO (.cons (aU.agg (.cons aO (.cons aO (.cons aU.empty (.cons aO (.cons aO (.one aU.empty))))))) (.cons aO (.one aO)))) ?_;refine gU ?_;exact bA I
   | true=>
    rw [cY] at nk qs;simp only [ag7] at qs;rw [nk];refine qZ ?_;refine aM.lx C C C C C qs (.cons aO (.cons (aU.agg (.cons aO (.cons aO (.cons aU.empty (.cons aO (.cons aO (.one aU.empty))))))) (.cons aO (.one aO)))) ?_;refine gU ?_;exact bA I
def nm (n:Int):Nat→List hS→List Nat
 | _,[]=>[]
 | i,m::r=>if m.gen=n then i::nm n (i+1) r else nm n (i+1) r
theorem P0 (n:Int):∀ (ms:List hS) (i:Nat),(nm n i ms).length≤ms.length
  | [],_=>g9 _
  | m::r,i=>by
    have:=P0 n r (i+1);rw [nm];split<;>simp<;>omega
theorem P1 (n:Int):∀ (ms:List hS) (i:Nat) (j:Nat),j∈nm n i ms→i≤j∧j<i+ms.length
  | [],i,j,h=>by rw [nm] at h;cases h
  | m::r,i,j,h=>by
    rw [nm] at h;have aX:=P1 n r (i+1) j;rw [i0];split at h
    · rcases af1.1 h with rfl|h
      · omega
      · have:=aX h;omega
    · have:=aX h;omega
def rK (i:Nat):af := .int .i64 (i:Int)
theorem aa1 (p:bR) (aD:gC p) (mb:Nat) (n:Int):yu d0 196 [] [.br [.br (mL p mb) 0] 0,.br [.int .i64 n] 0] [] rK (nm n 0 p.methods):=by
 have an:=bG;have hR:=aD.Bs;intro l Go fB fL o7 K bf;refine bF.bl ai Tryz.func196 C C fun s I=>?_
 rw [d8] at I ⊢;unfold mL c1 fl at *;refine gy ?_;refine ae.b9 [0,1,2,10,11] C I (σ:=Nat×a8) (fun q=>[(12,.int .i64 (q.1:Int))]) (fun q=>q.2) (fun q=>q.1≤p.methods.length∧Go (nm n q.1 (p.methods.drop q.1)) q.2) (fun q=>p.methods.length-q.1) (0,K) ⟨g8 _,bf⟩ (cz C) (aI.all _) ?_;rintro ⟨j,iH⟩ ⟨aH,dw⟩ I
 try simp only at aH dw I ⊢
 refine b8 ?_;refine ae.cond C (fun aw=>?_) (fun aY=>?_);rotate_left
 ·have aY:j=p.methods.length:=by simp at aY;omega
  rw [eG ag,nm] at dw;refine ef ?_;exact Fin.bt I C aO (aI.all _) (.inl ⟨rfl,.inl dw⟩)
 have aw:j<p.methods.length:=by simpa using aw
 obtain ⟨m,ab,bP⟩:=b5 (f:=nF) aw;rw [drop_cons ab,nm] at dw;unfold nF pa at bP
 repeat (first|(refine Au I ?_;clear I;intro I)|refine aa.dK ai I rfl rfl rfl rfl rfl rfl rfl (fun cA I=>?_))
 by_cases av:m.gen=n
 ·rw [g6 av] at dw
  have ax:=o7 j _ iH dw;unfold rK at ax;refine aa.dy 21 C (by simpa using av) ?_;refine ep ?_;refine aa.gJ C C C C C C ax I (aI.all _).there ?_ ?_
  ·rintro x aP (⟨⟨⟩,h⟩|⟨⟨⟩,h⟩|⟨_,⟨⟩,_⟩) I
   ·refine bD ?_
    exact bp.mk (j+1,aP) I ⟨aw,h⟩ ck (aI.jt (aI.ei aP)) tR
   ·refine e8 ?_
    exact Fin.bt I C aO (aI.jt (aI.ei aP)) (.inl ⟨rfl,.inr h⟩)
  ·rintro x aP (⟨h,_⟩|⟨h,_⟩|⟨v,⟨⟩,h⟩) I
   ·cases h
   ·cases h
   exact Fin.fb I aO (aI.jt (aI.ei aP)) (.inr ⟨_,rfl,h⟩)
 ·rw [d9 av] at dw
  refine aa.da 21 C (by simpa using av) ?_;refine bD ?_;exact bp.mk (j+1,iH) I ⟨aw,dw⟩ ck (aI.all _).there tR
theorem aa2 (p:bR) (mb:Nat) (n:Int):aV d0 163 [.br (mL p mb) 0,.int .i64 n] (.func 196 [] [.br [.br (mL p mb) 0] 0,.br [.int .i64 n] 0]):=by
 have an:=bG;refine aV.bl ai Tryz.func163 C C fun s I=>?_
 refine gT ?_;exact bA I
theorem aa3 (f:FuncId) (cap:List af) (xs:List Nat) (aE:xs.length<bB) (ob:yu d0 f [] cap [] rK xs):bF d0 195 [.aB 0 [] .nil,.func f [] cap] [] (fun o K=>o = .ret (.aB 1 (xs.map rK) .bc)∧K=[]):=by
 have an:=bG;refine bF.bl ai Tryz.func195 C C fun s I=>?_
 repeat (first|(refine Dk ?_)|refine aa.jV I C C C C C C (fun b I=>?_)|(refine Dl ?_))
 obtain ⟨dk,rfl⟩:∃ x,x=b:=⟨_,rfl⟩;refine ae.ih I 3 1 0 fun I=>?_
 refine ae.ru I [.aB 1 [] .nil] (kb:=dk) aZ (.one (aU.nil hk)) (fun I=>?_);refine ae.GL I C ec ob .nil (fun rem K=>∃ out own,out.length+rem.length=xs.length∧xs=out++rem∧K=[(.own dk,.box 23 [.aB 1 (out.map rK) own]),(own,.row 3 1 out.length)]) (fun _ _=>False) (fun _ _=>False) ⟨[],.nil,by simp,rfl,rfl⟩ ?_ ?_ (fun _ _ h=>h.elim) (fun _ _ h=>h.elim)
 ·rintro s₁ x rem K ⟨out,own,U,ad,rfl⟩ I
  rw [i0] at U;unfold rK at I ⊢;refine gK I ?_;intro I;refine aa.gn ai I C C C C C C C er C C C C C C C C aZ hy ki ag (fun b0 I=>?_);refine cv I ?_;intro I;exact At.mk [(.own dk,.box 23 [.aB 1 ((out++[x]).map rK) (.own b0)]),(.own b0,.row 3 1 (out++[x]).length)] I (by simp only [rK,ae1,ae2,ah2,f8,i0,af7];exact a1) ⟨out++[x],.own b0,by simp;omega,by rw [ad];simp,rfl⟩
 ·rintro K ⟨out,own,U,ad,rfl⟩ I
  rw [d7] at ad;subst ad;refine cv I ?_;intro I;exact Fin.bt I C aU.bc .nil ⟨rfl,rfl⟩
def Ca (p:bR) (bh:List eH) (args:List (Int×Int)) (i:Int):Bool:=(nL (bT p) (p.methods.getD i.toNat default).fact bh args).1&&(nL (bT p) (p.methods.getD i.toNat default).fact bh args).2==0
def JB (p:bR) (bh:List eH) (n:Int) (args:List (Int×Int)):List Int:=((nm n 0 p.methods).map fun i:Nat=>(i:Int)).filter (Ca p bh args)
theorem aa4 (p:bR) (aD:gC p) (eD:gu p=true):bF d0 118 [c9 p] [] (fun o K=>∃ mb,o = .ret (.br (mL p mb) 0)∧K=[(.own mb,.map [])]):=by
 have hw:=Iw p aD;rw [eD,g6 C,g6 C] at hw;refine bF.bl ai Tryz.func118 C C fun s I=>?_
 unfold c9 c1 mL fh fl at *;refine dY ?_;refine aa.rZ I C C C C (fun mb I=>?_);refine eA ?_;exact Fin.bt I C aO (aI.all _) ⟨mb,rfl,rfl⟩
theorem aa5 (p:bR) (aD:gC p) (eD:gu p=true) (mb:Nat) (bh:List eH) (args:List (Int×Int)) (aE:bh.length<bB) (ah:∀ o∈bh,o.bn.length<bB) (aR:args.length<bB) (j:Nat) (aH:j<p.methods.length):eC d0 (.func 164 [] [.br [.br (mL p mb) 0] 0,.br [ho bh] 0,.br [k6 args] 0]) [.int .i64 (j:Int)] (.bool (Ca p bh args j)):=by
 have an:=bG;refine eC.fk (first:=[]) (cap:=[.br [.br (mL p mb) 0] 0,.br [ho bh] 0,.br [k6 args] 0]) ?_;refine aV.bl ai Tryz.func164 C C fun s I=>?_
 obtain ⟨m,ab,bP⟩:=b5 (f:=nF) aH;have gm:=d6 ab;have qs:=HB (bT p) (xy eD) m.fact (by have:=aD.facts m gm;omega) bh args aE ah aR;have iE:Ca p bh args j=((nL (bT p) m.fact bh args).1&&(nL (bT p) m.fact bh args).2==0):=by
  unfold Ca;rw [i9,d5,ab];rfl
 rw [ao.cp] at qs;unfold ao.cells fh at qs;unfold nF pa at bP;unfold mL c1 fl ho k6 at *;rw [iE];generalize nL (bT p) m.fact bh args=r at *;obtain ⟨ha,cd⟩:=r;cases ha with
 | false=>
  refine cB ?_;exact bA I
 | true=>
  refine cB ?_;exact bA I
theorem aa6 (f:FuncId) (cap:List af) (xs:List Nat) (aE:xs.length<bB) (ob:yu d0 f [] cap [] rK xs):aV d0 162 [.func f [] cap] (.aB 1 (xs.map rK) .bc):=by
 have aF:=bF.G4 (aa3 f cap xs aE ob);refine aV.bl ai Tryz.func162 C C fun s I=>?_
 refine cB ?_;exact bA I
theorem aa7 (p:bR) (aD:gC p) (eD:gu p=true) (mb:Nat) (n:Int) (bh:List eH) (args:List (Int×Int)) (aE:bh.length<bB) (ah:∀ o∈bh,o.bn.length<bB) (aR:args.length<bB) :
    aV d0 120 [.br (mL p mb) 0,ho bh,.int .i64 n,k6 args] (bg (JB p bh n args)):=by
  have an:=bG;have hR:=aD.Bs;have gz:=P0 n p.methods 0;have adE:=aa2 p mb n;have Ej:=aa6 196 [.br [.br (mL p mb) 0] 0,.br [.int .i64 n] 0] (nm n 0 p.methods) ag (aa1 p aD mb n)
  have zr:=aaP (.func 164 [] [.br [.br (mL p mb) 0] 0,.br [ho bh] 0,.br [k6 args] 0]) (Ca p bh args) ((nm n 0 p.methods).map fun i:Nat=>(i:Int)) nM (fun x ab=>by
    obtain ⟨j,aH,rfl⟩:=ag0.1 ab
    have:=(P1 n p.methods 0 j aH).2
    exact aa5 p aD eD mb bh args aE ah aR j ag)
  have he:((nm n 0 p.methods).map fun i:Nat=>(i:Int)).map bb=(nm n 0 p.methods).map rK:=by rw [at1];rfl
  rw [he] at zr;refine aV.bl ai Tryz.func120 C C fun s I=>?_
  unfold JB bg;refine cB ?_;exact bA I
def ub (p:bR) (bh:List eH) (n:Int) (args:List (Int×Int)):Bool:=gu p&&vf p bh n args
def EY (p:bR) (bh:List eH) (n:Int) (args:List (Int×Int)):af := .cu [if ub p bh n args then bg (JB p bh n args) else .aB 0 [] .nil,.int .i64 (if ub p bh n args then 0 else 2)]
theorem aa8 (n:Int) (bh:List eH) (args:List (Int×Int)):aV d0 119 [.qx,ho bh,.int .i64 n,k6 args] (.bool false):=by
 have av:=aaS n;refine aV.bl ai Tryz.func119 C C fun s I=>?_
 unfold ho k6;refine cB ?_;exact bA I
theorem aa9 (p:bR) (aD:gC p) (n:Int) (bh:List eH) (args:List (Int×Int)) (aE:bh.length<bB) (ah:∀ o∈bh,o.bn.length<bB) (aR:args.length<bB):aV d0 72 [c9 p,ho bh,.int .i64 n,k6 args] (EY p bh n args):=by
 have an:=bG;refine aV.bl ai Tryz.func72 C C fun s I=>?_
 have iE:ub p bh n args=(gu p&&vf p bh n args):=rfl;unfold EY;cases eD:gu p with
 | false=>
  rw [eD,f6] at iE;rw [iE];have aC:=aaW p aD eD;have aF:=aa8 n bh args;unfold c9 c1 at *;refine cB ?_;exact bA I
 | true=>
  rw [eD,f5] at iE;have aC:=aa4 p aD eD;unfold c9 c1 at *;refine dF ?_;refine aa.b7 rfl rfl rfl rfl rfl aC I .nil ?_ (fun _ _ h _=>by obtain ⟨_,h,_⟩:=h;cases h);rintro _ _ ⟨mb,⟨⟩,rfl⟩ I;have aF:=aaX p aD eD mb n bh args aE ah aR;have pF:=aa7 p aD eD mb n bh args aE ah aR;cases nk:vf p bh n args with
  | false=>
   rw [nk] at iE aF;rw [iE];refine cB ?_;exact bA I
  | true=>
   rw [nk] at iE aF;rw [iE];refine db ?_;exact bA I
def vC (w:bx) (bh:List eH) (args:List (Int×Int)) (f:ao):Bool:=(nL w f bh args).2==0&&(nL w f bh args).1
def vD (q:ao→Bool):Nat→List ao→Nat→Nat
 | _,[],v=>v
 | i,f::r,v=>vD q (i+1) r (if q f then v|||2^i else v)
theorem P2 (q:ao→Bool):∀ (l:List ao) (i v:Nat),v<2^i→vD q i l v<2^(i+l.length)
  | [],i,v,h=>h
  | f::r,i,v,h=>by
    have U:(if q f then v|||2^i else v)<2^(i+1):=by
      have ad:2^i<2^(i+1):=ai4 ag ag;split
      · exact aj2 ag ad
      · omega
    have:=P2 q r (i+1) _ U;rw [vD,i0,show i+(r.length+1)=i+1+r.length by omega];exact this
def Cb (p:bR) (bh:List eH) (n:Int) (args:List (Int×Int)):Nat:=vD (vC (bT p) bh args) 0 (ca p n) 0
def vE (p:bR) (bh:List eH) (n:Int) (args:List (Int×Int)) (g:List bw):Int:=
 if !(ub p bh n args) || !hn g then 2 else if hc p n=0 then (if vd p n g then 0 else 7) else hc p n
def JC (p:bR) (bh:List eH) (n:Int) (args:List (Int×Int)) (g:List bw):af:=
 .cu [if vE p bh n args g=0 then bg (g.getD (leads g (Cb p bh n args)).1.toNat default).ms else .aB 0 [] .nil,.int .i64 (if vE p bh n args g=0 then ((leads g (Cb p bh n args)).2:Int) else 0),.int .i64 (vE p bh n args g)]
theorem P3 {g:List bw} (h:hn g=true):∀ x∈g,x.ms.length≤16:=fun x ab=>by
 obtain ⟨i,aN⟩:=ag2 ab;have az:=tB h aN;by_cases aR:x.atom = -1
 ·exact ((m5 aR).1 az).2.2.1
 ·have:=((kk aR).1 az).2.2.2.2.2.2
  omega
theorem P4 {i:Nat} (h:i≤7):ad5 .i64 (1*2^(min (i:Int).toNat (am5 .i64)))=((2^i:Nat):Int):=ER h
theorem aba (p:bR) (aD:gC p) (n:Int) (bh:List eH) (args:List (Int×Int)) (aE:bh.length<bB) (ah:∀ o∈bh,o.bn.length<bB) (m3:args.length<bB) (g:List bw) (av:g.length<bB):aV d0 22 [c9 p,ho bh,.int .i64 n,k6 args,gW g] (JC p bh n args g):=by
 have an:=bG;refine aV.bl ai Tryz.func22 C C fun s I=>?_
 have pF:=aa9 p aD n bh args aE ah m3;have a7:=He g av;have aR:=BI p aD n;have eB:vE p bh n args g=if !(ub p bh n args) || !hn g then 2 else if hc p n=0 then (if vd p n g then 0 else 7) else hc p n:=rfl
 unfold JC;cases iE:ub p bh n args with
 | false=>
  rw [iE] at eB;have eB:vE p bh n args g=2:=eB;unfold EY at pF;rw [iE,d9 ba,d9 ba] at pF;rw [eB,d9 ba,d9 ba];unfold c9 c1 ho k6 gW at *;refine cB ?_;exact bA I
 | true=>
 have eD:gu p=true:=by unfold ub at iE;rw [f9] at iE;exact iE.1
 unfold EY at pF;rw [iE,g6 C,g6 C] at pF;cases mD:hn g with
 | false=>
  rw [iE,mD] at eB;have eB:vE p bh n args g=2:=eB;rw [mD] at a7;rw [eB,d9 ba,d9 ba];unfold c9 c1 ho k6 gW at *;refine cB ?_;exact bA I
 | true=>
 rw [iE,mD] at eB;have eB:vE p bh n args g=if hc p n=0 then (if vd p n g then 0 else 7) else hc p n:=eB
 rw [mD] at a7;unfold c9 c1 ho k6 gW at *;refine cB ?_;refine aa.b7 rfl rfl rfl rfl rfl aR I .nil ?_ (fun _ _ h _=>by rcases h with ⟨_,_,_,_,h,_⟩|⟨_,⟨_,h⟩,_⟩<;>cases h);rintro _ _ (⟨he,ct,an,cH,⟨⟩,rfl⟩|⟨he,⟨v,⟨⟩⟩,rfl⟩) I;rotate_left
 ·rw [d9 he] at eB
  rw [eB,d9 he,d9 he];simp only [d8] at I ⊢;refine eg ?_;refine ae.cond C (fun _=>?_) (fun h=>absurd fV he);refine gT ?_;exact bA I
 rw [g6 he] at eB;obtain ⟨eD,gj,de,eM,fJ⟩:=vA he;have aC:=aaM p aD eD n (ca p n) an cH ct gj de eM fJ g mD;have FX:(g.all (fun x=>decide (x.atom<((ca p n).length:Int)))&&(e6 (bT p) (ca p n)).all (vB p n (ca p n) g))=vd p n g:=rfl;rw [FX] at aC;unfold eE gW at aC;simp only [ad',d8] at I ⊢;refine bD ?_;refine aa.b7 rfl rfl rfl rfl rfl aC I a1 ?_ (fun _ _ ⟨h,_⟩ _=>by cases h);rintro _ _ ⟨⟨⟩,D',m,rfl⟩ I;simp only [ad',d8] at I ⊢;cases Dc:vd p n g with
 | false=>
  rw [Dc,d9 ba] at eB;rw [eB,d9 ba,d9 ba];refine eg ?_;exact bA I
 | true=>
 rw [Dc,g6 C] at eB;rw [eB,g6 C,g6 C];have EX:Cb p bh n args=vD (vC (bT p) bh args) 0 (ca p n) 0:=rfl;have fs:=P2 (vC (bT p) bh args) (ca p n) 0 0 ba;rw [af8] at fs;have ua:2^(ca p n).length≤2^7:=ah7 ag gj;rw [← EX] at fs;generalize Cb p bh n args=view at *;have la:=NH g mD view ag;obtain ⟨P5,Cc,g1,g2,-⟩:=NI mD view;have fg:Cc.ms.length≤16:=(P3 mD) Cc (d6 g2);have cj:=A2 Cc.ms .bc ag;have qP:(g.map e9)[P5]? = some (e9 Cc):=by rw [af3,g2];rfl
 rw [g1] at la ⊢;rw [i9,show g.getD P5 default=Cc by rw [d5,g2];rfl];unfold gW at la;unfold e9 gL at qP;unfold eu d' at I ⊢;generalize bM:ca p n=l at *;refine gK I ?_;intro I;refine ae.b9 [1,3,4,15,55,56] C I (σ:=Nat×Nat) (fun q=>[(57,.int .i64 (q.1:Int)),(17,.int .i64 (q.2:Int))]) (fun _=>[eE p n (d' l) D' an cH ct]) (fun q=>q.1≤l.length∧q.2<2^q.1∧view=vD (vC (bT p) bh args) q.1 (l.drop q.1) q.2) (fun q=>l.length-q.1) (0,0) ⟨g8 _,by simp,EX⟩ (cz C) xJ ?_;rintro ⟨j,v⟩ ⟨aH,au,aq⟩ I;simp only [eE,eu,d'] at aH au aq I ⊢;have adF:2^j≤2^7:=ah7 ag ag;refine b8 ?_;refine ae.cond C (fun aw=>?_) (fun aY=>?_);rotate_left
 ·have aY:j=l.length:=by simp at aY;omega
  rw [eG ag,vD] at aq;subst aq;refine db ?_;exact bA I
 have aw:j<l.length:=by simpa using aw
 obtain ⟨f,ab,bP⟩:=b5 (f:=ao.bW) aw;have sD:=de f (d6 ab);have vu:f.size<bB:=by
  have U:=f.size_eq;have ad:=xz sD.1 sD.2;have aj:=B5 sD.1 sD.2;rw [aj,ao.iC] at U;omega
 have u2:=HB (bT p) (xy eD) f vu bh args aE ah m3;rw [drop_cons ab,vD] at aq;have iM:vC (bT p) bh args f=((nL (bT p) f bh args).2==0&&(nL (bT p) f bh args).1):=rfl;generalize nL (bT p) f bh args=r at u2 iM;obtain ⟨ha,cd⟩:=r;rw [ao.cp] at bP u2;unfold ao.cells fh fl ho k6 at *;simp only at iM u2;by_cases bu:cd=0
 ·subst bu
  cases ha with
  | true=>
   have iM:vC (bT p) bh args f=true:=iM;rw [iM,g6 C] at aq
   repeat (first|(refine Uh I ?_;clear I;intro I)|refine aa.dK ai I rfl rfl rfl rfl rfl rfl rfl (fun cA I=>?_)|(refine GB I ?_;clear I;intro I))
   refine aa.shl ((2^j:Nat):Int) C C C C C C ag (P4 ag) ?_;refine aa.bits _ C C C C C C (LH ag ag) ?_;refine gf ?_;exact bp.mk (j+1,v|||2^j) I ⟨aw,aj2 (by rw [as'];omega) (ai4 ag ag),aq⟩ ck a1 qb
  | false=>
   have iM:vC (bT p) bh args f=false:=iM;rw [iM,d9 ba] at aq
   repeat (first|(refine Ui I ?_;clear I;intro I)|refine aa.dK ai I rfl rfl rfl rfl rfl rfl rfl (fun cA I=>?_)|(refine GB I ?_;clear I;intro I))
   exact bp.mk (j+1,v) I ⟨aw,by show v<2^(j+1);rw [as'];omega,aq⟩ ck a1 qb
 ·have iM:vC (bT p) bh args f=false:=by rw [iM,show (cd==0)=false from beq_eq_false_iff_ne.2 bu,f6]
  rw [iM,d9 ba] at aq
  repeat (first|(refine Uj I ?_;clear I;intro I)|refine aa.dK ai I rfl rfl rfl rfl rfl rfl rfl (fun cA I=>?_)|(refine GB I ?_;clear I;intro I))
  refine aa.da 75 C (beq_eq_false_iff_ne.2 bu) ?_;refine bD ?_;exact bp.mk (j+1,v) I ⟨aw,by show v<2^(j+1);rw [as'];omega,aq⟩ ck a1 qb
def eW (ws:List Nat) (u:Nat):Bool:=ws.contains u
theorem abb {vs:List Nat} {q:Nat→Bool} {v:Nat} (h:v∈vs):eW (vs.filter q) v=q v:=by
 unfold eW;rw [af4,ah8,ae3];exact ⟨fun h=>h.2,fun ad=>⟨h,ad⟩⟩
def jg (vs ws:List Nat):Prop:=∃ q,ws=vs.filter q
theorem jg.all (vs:List Nat):jg vs vs:=⟨fun _=>true,(az4.2 fun _ _=>rfl).symm⟩
theorem jg.filter {vs ws:List Nat} (h:jg vs ws) (q:Nat→Bool):jg vs (ws.filter q):=by
 obtain ⟨r,rfl⟩:=h;exact ⟨_,List.filter_filter⟩
theorem jg.mem {vs ws:List Nat} (h:jg vs ws) {v:Nat} (au:v∈ws):v∈vs:=by
 obtain ⟨r,rfl⟩:=h;exact (ae3.1 au).1
theorem jg.len {vs ws:List Nat} (h:jg vs ws):ws.length≤vs.length:=by
 obtain ⟨r,rfl⟩:=h;exact aj1 _ _
theorem jg.self {vs ws:List Nat} (h:jg vs ws):vs.filter (eW ws)=ws:=by
 obtain ⟨r,rfl⟩:=h;exact aA5 fun v au=>abb au
theorem jg.inj {vs ws Cd:List Nat} (eO:∀ v∈vs,v<128) (h:jg vs ws) (eL:jg vs Cd) (he:j5 (eW ws)=j5 (eW Cd)):ws=Cd:=by
 have:=aat he;rw [← h.self,← eL.self];exact aA5 fun v au=>this v (eO v au)
theorem P6 {vs ws:List Nat} (eO:∀ v∈vs,v<128) (h:jg vs ws):(j5 (eW ws)==[0,0])=ws.isEmpty:=by
 rw [af4,am7,List.isEmpty_iff,← aau];constructor
 ·intro he
  have bu:jg vs []:=⟨fun _=>false,by simp⟩;exact h.inj eO bu he
 ·rintro rfl
  rfl
def rL (A:Nat) (h:Nat→List Int) (vs:List Nat) (M:List (List Int×af)):Prop:=∀ e∈M,∃ ws,jg vs ws∧e=(j5 (eW ws),k9 (fF A h ws))
theorem rL.len {A:Nat} {h:Nat→List Int} {vs:List Nat} {M:List (List Int×af)} (eJ:rL A h vs M):∀ e∈M,e.1.length=2:=fun e he=>by
 obtain ⟨ws,_,rfl⟩:=eJ e he;rfl
theorem rL.find {A:Nat} {h:Nat→List Int} {vs ws:List Nat} {M:List (List Int×af)} {e:List Int×af} (eO:∀ v∈vs,v<128) (eJ:rL A h vs M) (hw:jg vs ws) (a7:M.find? (fun e=>e.1==j5 (eW ws))=some e):e.2=k9 (fF A h ws):=by
 obtain ⟨Cd,U,ad⟩:=eJ e (List.mem_of_find?_eq_some a7);have aj:=List.find?_some a7;rw [ad] at aj ⊢;rw [U.inj eO hw (by simpa using aj)]
theorem rL.add {A:Nat} {h:Nat→List Int} {vs ws:List Nat} {M:List (List Int×af)} (eJ:rL A h vs M) (hw:jg vs ws):rL A h vs (M++[(j5 (eW ws),k9 (fF A h ws))]):=fun e he=>by
 rcases ae4.1 he with he|he
 ·exact eJ e he
 ·rw [t6.1 he];exact ⟨ws,hw,rfl⟩
def kN (vs:List Nat) (M me:List (List Int×af)) (k:Nat):Prop:=∀ e∈me,e∈M∨∃ ws,jg vs ws∧ws.length<k∧e.1=j5 (eW ws)
theorem kN.refl (vs:List Nat) (M:List (List Int×af)) (k:Nat):kN vs M M k:=fun _ h => .inl h
theorem kN.trans {vs:List Nat} {M me P7:List (List Int×af)} {k k':Nat} (h:kN vs M me k) (eL:kN vs me P7 k') (aA:k'≤k):kN vs M P7 k:=fun e he=>by
 rcases eL e he with U|⟨ws,U,ad,aj⟩
 ·exact h e U
 ·exact .inr ⟨ws,U,by omega,aj⟩
theorem kN.add {vs ws:List Nat} {M me:List (List Int×af)} {k:Nat} {x:af} (h:kN vs M me k) (hw:jg vs ws) (aA:ws.length<k):kN vs M (me++[(j5 (eW ws),x)]) k:=fun e he=>by
 rcases ae4.1 he with he|he
 ·exact h e he
 ·rw [t6.1 he];exact .inr ⟨ws,hw,aA,rfl⟩
theorem kN.mono {vs:List Nat} {M me:List (List Int×af)} {k k':Nat} (h:kN vs M me k) (aA:k≤k'):kN vs M me k':=fun e he=>by
 rcases h e he with U|⟨ws,U,ad,aj⟩
 ·exact .inl U
 ·exact .inr ⟨ws,U,by omega,aj⟩
theorem kN.none {vs ws:List Nat} {M me:List (List Int×af)} (eO:∀ v∈vs,v<128) (h:kN vs M me ws.length) (hw:jg vs ws) (a7:M.find? (fun e=>e.1==j5 (eW ws))=none):me.find? (fun e=>e.1==j5 (eW ws))=none:=by
 rw [List.find?_eq_none] at a7 ⊢;intro e he;rcases h e he with U|⟨Cd,U,ad,aj⟩
 ·exact a7 e U
 ·rw [aj]
  intro az;have:=U.inj eO hw sk;rw [this] at ad;exact absurd ad (Nat.lt_irrefl _)
def zs:Option bI→af
 | none => .nY
 | some t=>k9 t
theorem zt {ws:List Nat} {u:Nat}:eW ws u=true↔u∈ws:=ah8
theorem abc {vs ws:List Nat} (hw:jg vs ws) (i u:Nat):(eW ws u&&eW (vs.filter fun v=>v.testBit i) u)=eW (fp i ws) u:=by
 rw [af4,f9,zt,zt,zt,fp,ae3,ae3];exact ⟨fun h=>⟨h.1,h.2.2⟩,fun h=>⟨h.1,hw.mem h.1,h.2⟩⟩
theorem abd {vs ws:List Nat} (hw:jg vs ws) (i u:Nat):(eW ws u && !eW (vs.filter fun v=>v.testBit i) u)=eW (fq i ws) u:=by
 rw [af4,f9,ai0,af5,zt,ne_eq,zt,zt,fq,ae3,ae3];refine ⟨fun h=>⟨h.1,?_⟩,fun h=>⟨h.1,fun ad=>?_⟩⟩
 ·cases an:u.testBit i with
  | false=>rfl
  | true=>exact absurd ⟨hw.mem h.1,an⟩ h.2
 ·have:=h.2
  rw [ad.2] at this;cases this
theorem abe {vs:List Nat} {i j v:Nat} (au:vs[j]? = some v):(fun u=>eW ((vs.take (j+1)).filter fun v=>v.testBit i) u)=(fun u=>eW ((vs.take j).filter fun v=>v.testBit i) u||(v.testBit i&&u==v)):=by
 funext u;rw [an2,au,aq3];unfold eW;rw [an'];congr 1;show List.contains (List.filter (fun v=>v.testBit i) [v]) u=_;rw [aj5,at9];cases v.testBit i with
 | true=>simp;rfl
 | false=>simp
section
variable {P:Program} {N:Nat} {env:Env} {s:al} {o:Oper}
theorem a6.EZ {t yt:TypeId} {x y:Operand} {k:IntKind} {n:Nat} {xs ys:List Int} (fw:sj P t k n) (bk:P.eqGuardType P.depth t=false) (ah:o.op = .binOp .eql t x y yt) (ab:aK env x=some (km k xs)) (ax:aK env y=some (km k ys)) (U:xs.length=n) (ad:ys.length=n) :
  a6 P N o env s (fun v ak=>v = .bool (xs==ys)∧ak=s) (fun _ _=>False):=by
 refine a6.ns ja fun ro B c8 w p aJ=>?_
 have cd:=Bb (aJ.aK ab);have b1:=Bb (aJ.aK ax);refine uE (v := .bool (xs==ys)) ah ?_ ?_ (.bool _)
 ·rw [cd,b1]
  unfold eqGuard pq;simp [ac',bk]
 ·rw [cd,b1]
  have:=fw.eq xs ys U ad w;unfold pq at this ⊢;simp only [binOp,ac',this,Result.andThen_ok,Sem.run_pure]
end
section
variable {P:Program} {N:Nat} {ops:Array Oper} {Q:b6→Env→al→Prop} {env:Env} {s:al} {l:List Oper} {o:Oper} {d:Nat}
theorem aa.EZ {t yt:TypeId} {x y:Operand} {k:IntKind} {n:Nat} {xs ys:List Int} (fw:sj P t k n) (bk:P.eqGuardType P.depth t=false) (av:guardOf ops env o=some true) (ay:o.dst=some d) (aT:Nat.blt d N=true) (ah:o.op = .binOp .eql t x y yt) (ab:aK env x=some (km k xs)) (ax:aK env y=some (km k ys)) (U:xs.length=n) (ad:ys.length=n)
  (h:aa P N ops l Q ((d,.bool (xs==ys))::env) s):aa P N ops (o::l) Q env s:=
 aa.op av ay aT (a6.EZ fw bk ah ab ax U ad) (fun x ak ⟨U,ad⟩=>by subst U;subst ad;exact h) (fun _ _ h=>h.elim)
end
theorem Ce:sj d0 106 .u64 2:=by
 refine ⟨by kernel_rfl,fun e xs ab w=>?_,fun xs ys ab ax w=>?_⟩
 ·obtain ⟨a,b,rfl⟩:=two ab
  kernel_rfl
 ·obtain ⟨a,b,rfl⟩:=two ab
  obtain ⟨c8,aW,rfl⟩:=two ax;have hint:(d0).underlying 104 = some (.int .u64):=by kernel_rfl
  obtain ⟨info,aN⟩:=info_of_underlying hint;have Be:=M' (T := 106) (e := 104) (k := .u64) f' aN f' hint (fun a b w=>⟨by kernel_rfl,by kernel_rfl⟩) 9998 a b c8 aW w;have au:∀ a b:Int,pq .u64 [a,b] = .agg #[.int .u64 a,.int .u64 b]:=fun _ _=>rfl
  rw [au,au];unfold Op.equal;exact Be
theorem P8:(d0).eqGuardType (d0).depth 106 = false:=by kernel_rfl
def jh (p:bR) (n:Int) (l:List ao) (an cH ct:Nat) (vs:List Nat) (M:List (List Int×af)):a8:=[eE p n (d' l) (.aB 1 (jf vs) .bc) an cH ct,(.own an,.map (B9 p n l vs)),(.own cH,.map (mF .u64 M))]
theorem abf (p:bR) (n:Int) (l:List ao) (an cH ct:Nat) (vs:List Nat) (eO:∀ v∈vs,v<2^l.length) (gj:l.length≤7) (fs:vs.length≤128) (hR:p.methods.length≤16):∀ (k:Nat) (ws:List Nat),ws.length≤k→jg vs ws→∀ M,rL l.length (c' p n l) vs M →
  bF d0 62 [.ptr ct 0,lj (eW ws)] (jh p n l an cH ct vs M) (fun o K=>∃ me,rL l.length (c' p n l) vs me∧kN vs M me (ws.length+1)∧o = .ret (k9 (fF l.length (c' p n l) ws))∧K=jh p n l an cH ct vs me):=by
 have n6:bB=1099511627776:=rfl;have ua:2^l.length≤2^7:=ah7 ag gj;have zu:∀ v∈vs,v<128:=fun v h=>by have:=eO v h;omega
 intro k
 induction k using Nat.strongRecOn with
 | ind k aX=>
 intro ws aA hw M eJ;have kt:=eJ.len;have JD:=aaH p n l an cH ct vs zu fs hR (eW ws);rw [hw.self] at JD;have lf:=y0 l.length (c' p n l) ws;have pj:=hw.len;refine bF.bl ai Tryz.func62 C C fun s I=>?_
 unfold jh eE eu d' lj at *;refine gK I ?_;intro I;refine aM.yN ai I (xs:=j5 (eW ws)) (es:=M) Ce C C C C C C C C C C kt aZ C ?_;cases a7:M.find? (fun e=>e.1==j5 (eW ws)) with
 | some e=>
  rw [Option.map_some,eJ.find zu hw a7];refine gU ?_;exact Fin.bt I C aO (aI.all _) ⟨M,eJ,kN.refl _ _ _,rfl,rfl⟩
 | none=>
 rw [Option.map_none];refine cB ?_;unfold qq eE eu d' at JD;refine aa.b7 rfl rfl rfl rfl rfl JD I a1 ?_ (fun _ _ ⟨h,_⟩ _=>by cases h);rintro _ _ ⟨⟨⟩,rfl⟩ I;simp only [d8,ad'] at I ⊢;cases aR:nO (c' p n l) ws with
 | true=>
  rw [aR,g6 C] at lf;rw [g6 C];refine gK I ?_;intro I;refine aM.Bc ai I (xs:=j5 (eW ws)) (es:=M) Ce C C C (.inl C) C C C C C C kt aZ a7 (fun I=>?_);refine gT ?_;exact Fin.bt (K:=jh p n l an cH ct vs (M++[(j5 (eW ws),k9 (fF l.length (c' p n l) ws))])) I C aO (by rw [lf];exact (by simp only [jh,eE,eu,d'];exact a1)) ⟨_,eJ.add hw,(kN.refl _ _ _).add hw (am1 _),by rw [lf];rfl,rfl⟩
 | false=>
 rw [aR,d9 ba] at lf;rw [d9 ba];obtain ⟨adG,Cf⟩:=Ia (A:=l.length) (h:=c' p n l) (vs:=ws) (fun v h=>eO v (hw.mem h)) aR (fF l.length (c' p n l));rw [Cf,ae'] at lf;refine gK I ?_;intro I;refine ae.b9 [0,3,50] C I (σ:=Nat×Option bI×List (List Int×af)) (fun q=>[(51,.int .i64 (q.1:Int)),(9,zs q.2.1)]) (fun q=>jh p n l an cH ct vs q.2.2)
  (fun q=>q.1≤l.length∧rL l.length (c' p n l) vs q.2.2∧kN vs M q.2.2 ws.length∧(∀ t,q.2.1=some t→t.leaves≤128)∧(ah0 l.length).foldl (l9 (fF l.length (c' p n l)) ws) none=(List.range' q.1 (l.length-q.1)).foldl (l9 (fF l.length (c' p n l)) ws) q.2.1) (fun q=>l.length-q.1) (0,none,M)
  ⟨g8 _,eJ,kN.refl _ _ _,(fun _ h=>by cases h),by rw [List.range_eq_range'];rfl⟩ (cz C) (by simp only [jh,eE,eu,d'];exact a1) ?_
 rintro ⟨i,out,uc⟩ ⟨aN,xS,vF,gz,aq⟩ I;simp only [jh,eE,eu,d'] at aN xS vF gz aq I ⊢;have zr:=kN.none zu vF hw a7;have abg:=xS.len;refine b8 ?_;refine ae.cond C (fun aw=>?_) (fun aY=>?_);rotate_left
 ·have aY:i=l.length:=by simp at aY;omega
  rw [aY,Nat.sub_self,List.range'_zero,av8,Cf] at aq;subst aq;unfold zs;refine tm I ?_;intro I;refine aM.Bc ai I (xs:=j5 (eW ws)) (es:=uc) Ce C C C (.inl C) C C C C C C abg aZ zr (fun I=>?_);refine gT ?_;exact Fin.bt (K:=jh p n l an cH ct vs (uc++[(j5 (eW ws),k9 (fF l.length (c' p n l) ws))])) I C aO (by rw [lf];exact (by simp only [jh,eE,eu,d'];exact a1)) ⟨_,xS.add hw,(vF.mono (Nat.le_succ _)).add hw (am1 _),by rw [lf],rfl⟩
 have aw:i<l.length:=by simpa using aw
 rw [show l.length-i=(l.length-(i+1))+1 by omega,List.range'_succ,ah4] at aq;have dz:l9 (fF l.length (c' p n l)) ws out i=if (fp i ws).isEmpty||(fq i ws).isEmpty then out else xg out (.test i (fF l.length (c' p n l) (fq i ws)) (fF l.length (c' p n l) (fp i ws))):=rfl
 repeat (first|(refine Uk I ?_;clear I;intro I)|refine aa.dK ai I rfl rfl rfl rfl rfl rfl rfl (fun cA I=>?_))
 obtain ⟨jB,rfl⟩:∃ x,x=cA:=⟨_,rfl⟩;have JE:(fun u=>eW ((vs.take 0).filter fun v=>v.testBit i) u)=fun _=>false:=rfl
 refine ae.b9 [0,3,50,51,9,10,11,57,58] C I (σ:=Nat) (fun j=>[(59,.int .i64 (j:Int))]) (fun j=>(.own jB,.box 106 [.int .u64 (fU (fun u=>eW ((vs.take j).filter fun v=>v.testBit i) u) 0 64:Nat),.int .u64 (fU (fun u=>eW ((vs.take j).filter fun v=>v.testBit i) u) 64 64:Nat)])::jh p n l an cH ct vs uc) (fun j=>j≤vs.length) (fun j=>vs.length-j) 0 (g8 _) (cz C) (by
  simp only [JE,B8 (fun _=>rfl),jh,eE,eu,d']
  exact a1) ?_
 rintro j aH I;simp only [jh,eE,eu,d'] at aH I ⊢;refine b8 ?_;refine ae.cond C (fun cl=>?_) (fun aY=>?_)
 ·have cl:j<vs.length:=by simpa [jf] using cl
  obtain ⟨v,au,oV⟩:=b5 (f:=fun v:Nat=>af.int .i64 (v:Int)) cl;have E0:=zu v (d6 au);have nK:=abe (i:=i) au;have E1:=PO (fun u=>eW ((vs.take j).filter fun v=>v.testBit i) u) v E0;unfold lj at E1;unfold jf at I ⊢;refine dL ?_;refine aa.shr _ C C C C C C ag (r6 ag) ?_;refine aa.bits _ C C C C C C (q3 (n:=1) (aj6 (ao1 v i) ag) ag) ?_;refine fK ?_;have sf:=Jv v i;cases o3:v.testBit i with
  | true=>
   simp only [o3,f5] at nK;refine ae.cond C (fun _=>?_) (fun h=>by rw [sf,o3] at h;cases h);refine gK I ?_;intro I;exact bp.mk (j+1) I cl ck (by simp only [nK];exact a1) zl
  | false=>
   simp only [o3,f6,an0] at nK;refine ae.cond C (fun h=>by rw [sf,o3] at h;cases h) (fun _=>?_);refine gr ?_;exact bp.mk (j+1) I cl ck (by simp only [nK];exact a1) zl
 have aY:j=vs.length:=by simp [jf] at aY;omega
 subst aY;rw [ae6] at I ⊢;have hand:=aav (eW ws) (fun u=>eW (vs.filter fun v=>v.testBit i) u);have JF:=aaw (eW ws) (fun u=>eW (vs.filter fun v=>v.testBit i) u);simp only [abc hw i,abd hw i] at hand JF;unfold lj at hand JF;refine ae.mu I 11 jB C .here (fun I=>?_);refine tn ?_;refine ae.yp (σ:=Nat×Nat) (fun z=>[(0,.ptr ct 0),(3,.br [.int .u64 (fU (eW ws) 0 64:Nat),.int .u64 (fU (eW ws) 64 64:Nat)] 0),(50,.int .i64 ((l.map ao.bW).length:Int)),(51,.int .i64 (i:Int)),(9,zs out),(10,.int .i64 (i:Int)),(14,.ptr z.1 0),(15,.ptr z.2 0)]) (fun z=>(.own z.1,.box 106 [.int .u64 (fU (eW (fp i ws)) 0 64:Nat),.int .u64 (fU (eW (fp i ws)) 64 64:Nat)])::(.own z.2,.box 106 [.int .u64 (fU (eW (fq i ws)) 0 64:Nat),.int .u64 (fU (eW (fq i ws)) 64 64:Nat)])::jh p n l an cH ct vs uc) (fun _=>True) ?_ ?_
 ·refine ae.qT ai mixed C (bd.run C ?_)
  refine bd.Dj (i:=2) C C C C C C C hand ?_;refine bd.run C ?_;refine bd.Dj (i:=5) C C C C C C C JF ?_;refine bd.run C ?_;refine bd.many C (hQ.c (kg.mk (i:=6) C C C C (a6.dK ai I C C C C (X:=fun _ _=>False)) ?_ (fun _ _ h=>h.elim)) (hQ.c (kg.mk (i:=7) C C C C (a6.dK ai I C C C C (X:=fun _ _=>False)) ?_ (fun _ _ h=>h.elim)) hQ.n))
  ·rintro _ _ ⟨Cg,rfl,rfl,I⟩
   refine bd.dK 7 ai I C C C C C C C C C (fun rF I=>?_);refine bd.run C ?_;refine bd.cM 8 ai I C C C C C C C C C C C aZ bZ (fun I=>?_);refine bd.run C ?_;refine bd.cM 9 ai I C C C C C C C C C C C aZ bZ (fun I=>?_);refine bd.run C ?_;refine bd.done C ?_;exact lY.mk (Cg,rF) I trivial (cz C) (by simp only [jh,eE,eu,d',jf];exact a1)
  ·rintro _ _ ⟨rF,rfl,rfl,I⟩
   refine bd.dK 6 ai I C C C C C C C C C (fun Cg I=>?_);refine bd.run C ?_;refine bd.cM 8 ai I C C C C C C C C C C C aZ bZ (fun I=>?_);refine bd.run C ?_;refine bd.cM 9 ai I C C C C C C C C C C C aZ bZ (fun I=>?_);refine bd.run C ?_;refine bd.done C ?_;exact lY.mk (Cg,rF) I trivial (cz C) (by simp only [jh,eE,eu,d',jf];exact a1)
 rintro ⟨Cg,rF⟩-I;unfold jh eE eu d' at I ⊢;refine ae.mu I 14 Cg C .here (fun I=>?_);refine ae.mu I 15 rF C .here (fun I=>?_);have c6:=P6 zu (hw.filter fun v=>v.testBit i);have yk:=P6 zu (hw.filter fun v => !v.testBit i);rw [show ws.filter (fun v=>v.testBit i)=fp i ws from rfl] at c6;rw [show ws.filter (fun v => !v.testBit i)=fq i ws from rfl] at yk;refine kB ?_;refine aa.EZ Ce P8 (xs:=j5 (eW (fp i ws))) (ys:=[0,0]) C C C C C C C C ?_;rw [c6];cases E2:(fp i ws).isEmpty with
 | true=>
  rw [dz,E2,al9,g6 C] at aq;refine bD ?_;exact bp.mk (i+1,out,uc) I ⟨aw,xS,vF,gz,aq⟩ ck a1 sI
 | false=>
 refine ep ?_;refine aa.EZ Ce P8 (xs:=j5 (eW (fq i ws))) (ys:=[0,0]) C C C C C C C C ?_;rw [yk];cases cE:(fq i ws).isEmpty with
 | true=>
  rw [dz,E2,cE,aq5,g6 C] at aq;refine bD ?_;exact bp.mk (i+1,out,uc) I ⟨aw,xS,vF,gz,aq⟩ ck a1 sI
 | false=>
 rw [dz,E2,cE,d9 ba] at aq;have df:=xh (i:=i) (vs:=ws) (by rw [E2,cE];rfl);have P9:=D4 i ws;have I5:=xj l.length (c' p n l) _ (fp i ws) (g9 _);have lp:=xj l.length (c' p n l) _ (fq i ws) (g9 _);have h4:=fun M h=>aX (fq i ws).length ag (fq i ws) (g9 _) (hw.filter fun v => !v.testBit i) M h
 have E3:=fun M h=>aX (fp i ws).length ag (fp i ws) (g9 _) (hw.filter fun v=>v.testBit i) M h
 obtain ⟨aej,ad7,fn,Ds,-,-⟩:=tP (fF l.length (c' p n l) (fq i ws));obtain ⟨ty,fY,aeC,zk,-,-⟩:=tP (fF l.length (c' p n l) (fp i ws));simp only [Ds] at h4;simp only [zk] at E3;have P':(bI.test i (fF l.length (c' p n l) (fq i ws)) (fF l.length (c' p n l) (fp i ws))).leaves≤128:=by rw [bI.leaves];omega
 refine db ?_;refine ae.yp (σ:=List (List Int×af)×Nat) (fun z=>[(0,.ptr ct 0),(3,.br [.int .u64 (fU (eW ws) 0 64:Nat),.int .u64 (fU (eW ws) 64 64:Nat)] 0),(50,.int .i64 ((l.map ao.bW).length:Int)),(51,.int .i64 (i:Int)),(9,zs out),(10,.int .i64 (i:Int)),(16,.ptr z.2 0)]) (fun z=>(.own z.2,.box 156 [.int .i64 (i:Int),.iface aej ad7,.iface ty fY])::jh p n l an cH ct vs z.1) (fun z=>rL l.length (c' p n l) vs z.1∧kN vs uc z.1 ws.length) ?_ ?_
 ·refine ae.qT ai mixed C (bd.run C ?_)
  refine bd.many rfl (hQ.c (kg.mk (i:=3) rfl rfl rfl rfl (a6.b7 rfl rfl (h4 uc xS) I a1) ?_ (fun x ak h=>by obtain ⟨_,_,_,_,_,_,h,_⟩:=h;cases h)) (hQ.c (kg.mk (i:=8) rfl rfl rfl rfl (a6.dK ai I rfl rfl rfl rfl (X:=fun _ _=>False)) ?_ (fun _ _ h=>h.elim)) hQ.n))
  ·rintro _ _ ⟨aP,rfl,I,E4,xT,E5,⟨⟩,rfl⟩
   simp only [d8,ad'] at I ⊢;refine bd.run C ?_;refine bd.many rfl (hQ.c (kg.mk (i:=6) rfl rfl rfl rfl (a6.b7 rfl rfl (E3 E4 xT) I a1) ?_ (fun x ak h=>by obtain ⟨_,_,_,_,_,_,h,_⟩:=h;cases h)) (hQ.c (kg.mk (i:=8) rfl rfl rfl rfl (a6.dK ai I rfl rfl rfl rfl (X:=fun _ _=>False)) ?_ (fun _ _ h=>h.elim)) hQ.n))
   ·rintro _ _ ⟨aP,rfl,I,M2,sy,ud,⟨⟩,rfl⟩
    simp only [d8,ad'] at I ⊢;refine bd.run C ?_;refine bd.dK 8 ai I C C C C C C C C C (fun xU I=>?_);refine bd.run C ?_;refine bd.cM 9 ai I C C C C C C C C C C C aZ bZ (fun I=>?_);refine bd.run C ?_;refine bd.done C ?_;exact lY.mk (M2,xU) I ⟨sy,(E5.mono ag).trans ud ag⟩ (cz C) (by simp only [jh,eE,eu,d',jf];exact a1)
   ·rintro _ _ ⟨xU,rfl,rfl,I⟩
    refine bd.b7 6 rfl rfl rfl rfl rfl rfl rfl (E3 E4 xT) I a1 ?_ (fun _ _ aj _=>by obtain ⟨_,_,_,h,_⟩:=aj;cases h);rintro _ _ ⟨M2,sy,ud,⟨⟩,rfl⟩ I;simp only [d8,ad'] at I ⊢;refine bd.run C ?_;refine bd.cM 9 ai I C C C C C C C C C C C aZ bZ (fun I=>?_);refine bd.run C ?_;refine bd.done C ?_;exact lY.mk (M2,xU) I ⟨sy,(E5.mono ag).trans ud ag⟩ (cz C) (by simp only [jh,eE,eu,d',jf];exact a1)
  ·rintro _ _ ⟨xU,rfl,rfl,I⟩
   refine bd.b7 3 rfl rfl rfl rfl rfl rfl rfl (h4 uc xS) I a1 ?_ (fun _ _ aj _=>by obtain ⟨_,_,_,h,_⟩:=aj;cases h);rintro _ _ ⟨E4,xT,E5,⟨⟩,rfl⟩ I;simp only [d8,ad'] at I ⊢;refine bd.run C ?_;refine bd.b7 6 rfl rfl rfl rfl rfl rfl rfl (E3 E4 xT) I a1 ?_ (fun _ _ aj _=>by obtain ⟨_,_,_,h,_⟩:=aj;cases h);rintro _ _ ⟨M2,sy,ud,⟨⟩,rfl⟩ I;simp only [d8,ad'] at I ⊢;refine bd.run C ?_;refine bd.cM 9 ai I C C C C C C C C C C C aZ bZ (fun I=>?_);refine bd.run C ?_;refine bd.done C ?_;exact lY.mk (M2,xU) I ⟨sy,(E5.mono ag).trans ud ag⟩ (cz C) (by simp only [jh,eE,eu,d',jf];exact a1)
 rintro ⟨M2,xU⟩ ⟨sy,ud⟩ I;unfold jh eE eu d' at I ⊢;refine ae.mu I 16 xU C .here (fun I=>?_);cases out with
 | none=>
  unfold zs;refine bD ?_;exact bp.mk (i+1,some (.test i (fF l.length (c' p n l) (fq i ws)) (fF l.length (c' p n l) (fp i ws))),M2) I ⟨aw,sy,vF.trans ud (g9 _),(fun t h=>by cases h;exact P'),aq⟩ Ph a1 sI
 | some o=>
  obtain ⟨to,aew,aeu,JG,-,-⟩:=tP o;have kf:=Xy (.test i (fF l.length (c' p n l) (fq i ws)) (fF l.length (c' p n l) (fp i ws))) o ag (by have:=gz o C;omega);rw [k9,Ds,zk,JG] at kf;have wN:xg (some o) (.test i (fF l.length (c' p n l) (fq i ws)) (fF l.length (c' p n l) (fp i ws)))=if (bI.test i (fF l.length (c' p n l) (fq i ws)) (fF l.length (c' p n l) (fp i ws))).before o then some (.test i (fF l.length (c' p n l) (fq i ws)) (fF l.length (c' p n l) (fp i ws))) else some o:=rfl
  rw [wN] at aq;have sC:zs (some o) = .iface to aew:=JG;rw [sC];cases iM:(bI.test i (fF l.length (c' p n l) (fq i ws)) (fF l.length (c' p n l) (fp i ws))).before o with
  | true=>
   rw [iM] at kf;rw [iM,g6 C] at aq;refine cB ?_;exact bp.mk (i+1,some (.test i (fF l.length (c' p n l) (fq i ws)) (fF l.length (c' p n l) (fp i ws))),M2) I ⟨aw,sy,vF.trans ud (g9 _),(fun t h=>by cases h;exact P'),aq⟩ Ph a1 sI
  | false=>
   rw [iM] at kf;rw [iM,d9 ba] at aq;refine cB ?_;exact bp.mk (i+1,some o,M2) I ⟨aw,sy,vF.trans ud (g9 _),gz,aq⟩ (by repeat (first|exact trivial|refine ⟨⟨_,rfl,aO⟩,?_⟩|refine ⟨⟨_,rfl,aU.of_eq (by (first|rw [iN ag]|exact JG.symm))⟩,?_⟩)) a1 sI
theorem abh (g:List bw) (av:g.length<bB):aV d0 20 [gW g] (.cu [if hn g then .aB 4 ((small g).map e9) .bc else .aB 0 [] .nil,.int .i64 (if hn g then 0 else 2)]):=by
 have an:=bG;refine aV.bl ai Tryz.func20 C C fun s I=>?_
 have a7:=He g av;unfold gW at *;cases mD:hn g with
 | false=>
  rw [mD] at a7;rw [d9 ba,d9 ba];refine cB ?_;exact bA I
 | true=>
  rw [mD] at a7;rw [g6 C,g6 C];have ar:=OO g (Y2 mD);refine cB ?_;refine aa.b7 rfl rfl rfl rfl rfl ar I .nil ?_ (fun _ _ ⟨h,_⟩ _=>by cases h);rintro _ _ ⟨⟨⟩,rfl⟩ I;simp only [d8] at I ⊢;refine eA ?_;exact bA I
def E6 (p:bR) (n:Int):af := .cu [if hc p n=0 then .aB 4 ((small (bI.laid [] (tN p n))).map e9) .bc else .aB 0 [] .nil,.int .i64 (hc p n)]
theorem Qa (p:bR) (aD:gC p) (n:Int):aV d0 13 [c9 p,.int .i64 n] (E6 p n):=by
 have an:=bG;refine aV.bl ai Tryz.func13 C C fun s I=>?_
 have aR:=BI p aD n;unfold E6;unfold c9 c1 at *;refine dF ?_;refine aa.b7 rfl rfl rfl rfl rfl aR I .nil ?_ (fun _ _ h _=>by rcases h with ⟨_,_,_,_,h,_⟩|⟨_,⟨_,h⟩,_⟩<;>cases h);rintro _ _ (⟨he,ct,an,cH,⟨⟩,rfl⟩|⟨he,⟨v,⟨⟩⟩,rfl⟩) I
 ·rw [he,g6 C,xi]
  obtain ⟨eD,gj,de,eM,fJ⟩:=vA he;have ua:2^(ca p n).length≤2^7:=ah7 ag gj;have lG:=Jw p aD eD n (ca p n) an cH ct gj de eM fJ;have fs:=B' (bT p) (ca p n);have eO:∀ v∈e6 (bT p) (ca p n),v<2^(ca p n).length:=fun v h=>xP h
  have xB:=(xA eD).1;generalize bM:ca p n=l at *;generalize JH:e6 (bT p) l=vs at *;have Cf:=abf p n l an cH ct vs eO gj ag xB vs.length vs (g9 _) (jg.all vs) [] (fun _ h=>by cases h);have qI:=xj l.length (c' p n l) _ vs (g9 _);have oK:=BN (P:=fun ms=>ms.length≤16) l.length (c' p n l) ba (fun v=>by have:=xC n l v p.methods 0;unfold c';omega) _ vs (g9 _);generalize fF l.length (c' p n l) vs=t at *;have Qb:=Xz t [] none C cP;have kX:=OG oK ag;have abi:=OO _ kX;simp only [ad',d8] at I ⊢;unfold eE eu d' at *;refine bD ?_;refine aa.b7 rfl rfl rfl rfl rfl lG I a1 ?_ (fun _ _ ⟨h,_⟩ _=>by cases h);rintro _ _ ⟨⟨⟩,rfl⟩ I;simp only [ad',d8] at I ⊢
  repeat (first|(refine Ul I ?_;clear I;intro I)|refine aa.dK ai I rfl rfl rfl rfl rfl rfl rfl (fun cA I=>?_))
  obtain ⟨ad9,rfl⟩:∃ x,x=cA:=⟨_,rfl⟩;have JE:eW (vs.take 0)=fun _=>false:=rfl
  refine ae.b9 [6,8,27,28] C I (σ:=Nat) (fun j=>[(29,.int .i64 (j:Int))]) (fun j=>(.own ad9,.box 106 [.int .u64 (fU (eW (vs.take j)) 0 64:Nat),.int .u64 (fU (eW (vs.take j)) 64 64:Nat)])::jh p n l an cH ct vs []) (fun j=>j≤vs.length) (fun j=>vs.length-j) 0 (g8 _) (cz C) (by
   simp only [JE,B8 (fun _=>rfl),jh,eE,eu,d']
   exact a1) ?_
  rintro j aH I;simp only [jh,eE,eu,d',jf] at aH I ⊢;refine b8 ?_;refine ae.cond C (fun aw=>?_) (fun aY=>?_)
  ·have aw:j<vs.length:=by simpa using aw
   obtain ⟨v,au,oV⟩:=b5 (f:=fun v:Nat=>af.int .i64 (v:Int)) aw;have E0:v<128:=by have:=eO v (d6 au);omega
   have E1:=PO (eW (vs.take j)) v E0;have fu:(fun u=>eW (vs.take j) u||u==v)=eW (vs.take (j+1)):=by
    funext u;rw [an2,au];unfold eW;rw [an'];congr 1;simp;rfl
   rw [fu] at E1;unfold lj at E1;refine gK I ?_;intro I;exact bp.mk (j+1) I aw ck a1 zl
  have aY:j=vs.length:=by simp at aY;omega
  subst aY;rw [ae6] at I ⊢;unfold jh eE eu d' lj jf at Cf;unfold j3 jy at Qb;refine cv I ?_;intro I;refine aa.b7 rfl rfl rfl rfl rfl Cf I a1 ?_ (fun _ _ h _=>by obtain ⟨_,_,_,h,_⟩:=h;cases h);rintro _ _ ⟨me,-,-,⟨⟩,rfl⟩ I;simp only [ad',d8] at I ⊢;skip;refine aa.b7 rfl rfl rfl rfl rfl Qb I .nil ?_ (fun _ _ h _=>by obtain ⟨_,_,h,_⟩:=h;cases h);rintro _ _ ⟨bC,df,⟨⟩,rfl⟩ I;have mB:=qf t [];have lA:=t.py;rcases bC with _|⟨g2,gq,gb⟩
  ·have bu:bI.laid [] t=[]:=df
   rw [bu] at mB;simp at mB;omega
  obtain ⟨fr,gx,hv⟩:=df;simp only [ad',d8] at I ⊢;refine aa.run ai C ?_;refine aa.nil ?_;refine tn ?_;refine ae.I7 I 11 g2 C aZ hv (by rw [f0]) (pz _) gx (by have:=kX.len;omega) (fun I=>?_);rw [← Ew];refine kB ?_;refine aa.b7 rfl rfl rfl rfl rfl abi I .nil ?_ (fun _ _ ⟨h,_⟩ _=>by cases h);rintro _ _ ⟨⟨⟩,rfl⟩ I;simp only [ad',d8] at I ⊢;refine eA ?_;exact bA I
 ·rw [d9 he]
  simp only [d8] at I ⊢;refine eg ?_;refine ae.cond C (fun _=>?_) (fun h=>absurd fV he);refine gT ?_;exact bA I
def zv (c:Int):ao := .mk 2 0 [] c 0 []
def mf:bR:=⟨[⟨[],[],[]⟩,⟨[3],[],[]⟩,⟨[],[],[]⟩],0,[1],[⟨1,0,zv 3,0⟩,⟨1,0,zv 4,1⟩,⟨1,0,.mk 6 0 [] 0 0 [zv 1,.mk 3 0 [] 0 5 []],2⟩],[⟨2,0,[]⟩,⟨2,0,[]⟩,⟨2,0,[]⟩,⟨2,0,[]⟩],3⟩
def pG:List bw:=[⟨0,1,4,[]⟩,⟨3,2,3,[]⟩,⟨-1,0,0,[]⟩,⟨-1,0,0,[2]⟩,⟨1,5,6,[]⟩,⟨-1,0,0,[0]⟩,⟨-1,0,0,[0,1]⟩]
theorem Qc:hc mf 0=0:=by kernel_rfl
theorem abj:e6 (bT mf) (ca mf 0)=[0,1,3,4,12]:=by kernel_rfl
theorem abk:xQ mf 0 3=0:=by kernel_rfl
theorem abl:c' mf 0 (ca mf 0) 3=[0,1]:=by kernel_rfl
theorem abm:xQ mf 0 2=5:=by kernel_rfl
theorem abn:small (bI.laid [] (tN mf 0))=pG:=by kernel_rfl
theorem abo:vE mf [] 0 [(1,4)] pG=0:=by kernel_rfl
theorem abp:leads pG (Cb mf [] 0 [(1,4)])=(3,2):=by kernel_rfl
theorem abq:kC pG=2:=by kernel_rfl
theorem abr:hn pG=true:=by kernel_rfl
theorem abt:small [⟨0,1,2,[]⟩,⟨-1,0,0,[]⟩,⟨-1,0,0,[]⟩]=[⟨0,1,1,[]⟩,⟨-1,0,0,[]⟩]:=by kernel_rfl
theorem abu:hn [⟨0,1,2,[]⟩,⟨-1,0,0,[]⟩,⟨-1,0,0,[]⟩]=true:=by kernel_rfl
theorem JI (c:Int):aV d0 50 [.int .i64 c] ((zv c).bW):=by
 have an:=bG;refine aV.bl ai Tryz.func50 C C fun s I=>?_
 rw [ao.cp];unfold zv ao.cells
 repeat (first|(refine Um I ?_;clear I;intro I)|refine aa.dK ai I rfl rfl rfl rfl rfl rfl rfl (fun cA I=>?_))
 refine Fin.cG I (o6 C C (bo.get aZ I) C) ?_
 repeat (first|exact aO|exact aU.empty|exact aU.bc|refine aU.agg ?_|refine aU.aB ?_|exact cR.nil|refine cR.cons ?_ ?_)
theorem abv (u:Unit):aV d0 67 [] (gW pG):=by
 have an:=bG;refine aV.bl ai Tryz.func67 C C fun s I=>?_
 unfold gW;refine gT ?_;refine Fin.cG I C ?_;unfold pG;simp only [ae2,ah2,e9,gL,bg,bb]
 repeat (first|exact aO|exact aU.empty|exact aU.bc|refine aU.agg ?_|refine aU.aB ?_|exact cR.nil|refine cR.cons ?_ ?_)
theorem abw (u:Unit):aV d0 51 [] (c9 mf):=by
 have an:=bG;refine aV.bl ai Tryz.func51 C C fun s I=>?_
 have U:=JI 1;have aj:=JI 3;have a':=JI 4;rw [ao.cp] at U aj a';unfold ao.cells at U aj a'
 repeat (first|(refine Un I ?_;clear I;intro I)|refine aa.dK ai I rfl rfl rfl rfl rfl rfl rfl (fun cA I=>?_)|(refine Uo I ?_;clear I;intro I))
 refine Fin.cG I (o6 C C (bo.get aZ I) C) ?_;unfold mf c9 c1;simp only [ae2,ah2,nF,pa,jc,m4,jd,k3,bg,bb,ao.path,ao.op,ao.arg,ao.cls,ao.n,ao.kids,ao.cp,ao.cells,zv]
 repeat (first|exact aO|exact aU.empty|exact aU.bc|refine aU.agg ?_|refine aU.aB ?_|exact cR.nil|refine cR.cons ?_ ?_)
theorem Ch:gC mf:=⟨by decide,by decide,by decide,by decide,by decide,by decide,by decide⟩
theorem abx (u:Unit):aV d0 16 [] (.bool true):=by
 have an:=bG;have U:=abw ();have ad:=PW mf Ch 0;have aj:=JA mf Ch 0 3;have a':=JA mf Ch 0 2;have bz:=Qa mf Ch 0;have fG:=aba mf Ch 0 [] [(1,4)] ec (fun _ h=>by cases h) ec pG ec;have hs:=Vg pG ec;have m9:=abh [⟨0,1,2,[]⟩,⟨-1,0,0,[]⟩,⟨-1,0,0,[]⟩] ec;have dw:=abv ();have s1:=yx [0,1,3,4,12] [0,1,3,4,12] ec ec;have s2:=yx [0,1] [0,1] ec ec;have aex:=yx [2] [2] ec ec;have g1:=OZ pG pG ec ec ec ec;have g2:=OZ [⟨0,1,1,[]⟩,⟨-1,0,0,[]⟩] [⟨0,1,1,[]⟩,⟨-1,0,0,[]⟩] ec ec ec ec;unfold EU at ad;rw [Qc,g6 C,abj] at ad;unfold EW at aj a';rw [abk,g6 C,show ((3:Int).toNat)=3 from rfl,abl] at aj;rw [abm,d9 ec] at a';unfold E6 at bz;rw [Qc,g6 C,abn] at bz;unfold JC at fG;rw [abo,g6 C,g6 C,abp] at fG;rw [abr,g6 C,g6 C,abq] at hs;rw [abu,g6 C,g6 C,abt] at m9;rw [show (([0,1,3,4,12]:List Int)==[0,1,3,4,12])=true from rfl] at s1;rw [show (([0,1]:List Int)==[0,1])=true from rfl] at s2;rw [show (([2]:List Int)==[2])=true from rfl] at aex;rw [show (pG==pG)=true from rfl] at g1;rw [show (([⟨0,1,1,[]⟩,⟨-1,0,0,[]⟩]:List bw)==[⟨0,1,1,[]⟩,⟨-1,0,0,[]⟩])=true from rfl] at g2;refine aV.bl ai Tryz.func16 C C fun s I=>?_
 unfold c9 c1 at *;refine dY ?_;refine aa.lx C C C C C s1 (.cons (aU.of_eq C) (.one aU.bc)) ?_;refine ep ?_;refine aa.lx C C C C C s2 (.cons (aU.of_eq C) (.one aU.bc)) ?_;refine qZ ?_;refine aM.lx C C C C C fG (.cons aO (.cons aU.empty (.cons aO (.cons aU.bc (.one aO))))) ?_;refine db ?_
 refine aa.lx C C C C C m9 (.one (by
  unfold gW
  simp only [ae2,ah2,e9,gL,bg,bb]
  repeat (first|exact aO|exact aU.empty|exact aU.bc|refine aU.agg ?_|refine aU.aB ?_|exact cR.nil|refine cR.cons ?_ ?_))) ?_
 refine db ?_
 refine aa.lx C C C C C g2 (.cons (aU.of_eq C) (.one (by
  unfold gW
  simp only [ae2,ah2,e9,gL,bg,bb]
  repeat (first|exact aO|exact aU.empty|exact aU.bc|refine aU.agg ?_|refine aU.aB ?_|exact cR.nil|refine cR.cons ?_ ?_)))) ?_
 refine eA ?_;exact bA I
def lJ (p:bR) (n:Int):List bw:=small (bI.laid [] (tN p n))
theorem E7 {p:bR} (n:Int) (he:hc p n=0):nR (bI.laid [] (tN p n)):=by
 rw [xi];obtain ⟨eD,gj,de,eM,fJ⟩:=vA he;have ua:2^(ca p n).length≤2^7:=ah7 ag gj;have fs:=B' (bT p) (ca p n);have qI:=xj (ca p n).length (c' p n (ca p n)) _ (e6 (bT p) (ca p n)) (g9 _);have oK:=BN (P:=fun ms=>ms.length≤16) (ca p n).length (c' p n (ca p n)) ba (fun v=>by have:=xC n (ca p n) v p.methods 0;have:=(xA eD).1;unfold c';omega) _ (e6 (bT p) (ca p n)) (g9 _);exact OG oK ag
theorem Qd (l:List Nat):(l.map fun v:Nat=>af.int .i64 (v:Int))=(l.map fun v:Nat=>(v:Int)).map bb:=by rw [at1];rfl
theorem Qe:∀ l m:List Nat,((l.map fun v:Nat=>(v:Int))==(m.map fun v:Nat=>(v:Int)))=(l==m)
  | [],[]=>rfl
  | [],_::_=>rfl
  | _::_,[]=>rfl
  | a::l,b::m=>by
    rw [ae2,ae2,as6,as6,Qe l m];congr 1;rw [af4];simp;omega
def nU (w:bx) (L:List cb):Prop:=L.length<4096∧sJ w L
theorem nU.at {w:bx} {L:List cb} (h:nU w L) {x:cb} (ab:x∈L):x.1.c0=true∧x.1.path.length≤2 ∧ -1000000000≤x.1.n∧x.1.n≤1000000000∧(x.1.op=2→0≤x.1.cls∧x.1.cls<3+(w.ps.length:Int)):=by
 obtain ⟨az,aE⟩:=h.2 x ab;refine ⟨aE,(DN az aE).1,?_⟩;simp only [h9,aE,ag7,f9,i7] at az;have ad:=az.2.2.2.2.2.2.2;unfold kF at ad;by_cases aj:x.1.op=2
 ·rw [g6 aj] at ad
  simp only [f9,i7] at ad;exact ⟨by omega,by omega,fun _=>ad.2⟩
 ·rw [d9 aj] at ad
  simp only [f9,i7] at ad;exact ⟨by omega,by omega,fun h=>absurd h aj⟩
theorem nU.on {w:bx} {L:List cb} (h:nU w L) (arg:Int) (path:List Int):nU w (fm L arg path):=
 ⟨aj6 (aj1 _ _) h.1,fun x ab=>h.2 x (ae3.1 ab).1⟩
theorem aby (L:List cb) (arg:Int) (path:List Int):(fm L arg path).length≤L.length:=aj1 _ _
theorem abz {L:List cb} {j:Nat} {x:cb} (h:L[j]? = some x) (q:cb→Bool):(L.take (j+1)).filter q=(L.take j).filter q++(if q x then [x] else []):=by
 rw [hZ h,aq3];congr 1;by_cases bk:q x=true
 ·rw [g6 bk,aj5,g6 bk];rfl
 ·rw [d9 bk,aj5,d9 bk];rfl
theorem JJ (w:bx) (L:List cb) (arg:Int) (path:List Int) (bM:nU w L) (aD:path.length≤3):aV d0 212 [kM w L arg path] (oM (fm L arg path)):=by
 have an:=bG;have Qf:=bM.1;refine aV.bl ai Tryz.func212 C C fun s I=>?_
 obtain ⟨xs,dg⟩:∃ xs:Nat→List af,∀ j,xs j=(fm (L.take j) arg path).map (fun x=>(iq x).bW):=⟨_,fun _=>rfl⟩;have bu:xs 0=[]:=by rw [dg];rfl
 have EJ:∀ j,(xs j).length≤L.length:=fun j=>by
  rw [dg,f0];refine am' (aby _ _ _) ?_;rw [ae8];omega
 unfold kM oM cZ bg;refine gy ?_;refine ae.ih I 58 6 0 fun I=>?_
 refine ae.b9 [1,9,10] C I (σ:=Nat×bQ) (fun q=>[(11,.int .i64 (q.1:Int)),(3,.aB 6 (xs q.1) q.2)]) (fun q=>[(q.2,.row 58 6 (xs q.1).length)]) (fun q=>q.1≤L.length) (fun q=>L.length-q.1) (0,.nil) (g8 _) ⟨⟨_,rfl,aO⟩,⟨_,rfl,by rw [bu];exact aU.nil hk⟩,trivial⟩ yJ ?_;rintro ⟨j,own⟩ aH I;simp only at aH I ⊢;refine b8 ?_;refine ae.cond C (fun aw=>?_) (fun aY=>?_);rotate_left
 ·have aY:j=L.length:=by simp at aY;omega
  subst aY;have he:xs L.length=(fm L arg path).map (fun x=>(iq x).bW):=by rw [dg,ae6]
  rw [he];refine ef ?_;exact Fin.cG I C aU.bc
 have aw:j<L.length:=by simpa using aw
 obtain ⟨x,ab,bP⟩:=b5 (f:=fun x:cb=>(iq x).bW) aw;have fg:=bM.at (d6 ab);have dz:=zp x fg.1;have bP:(L.map fun x=>(iq x).bW)[j]? = some (iq x).bW:=bP;rw [ao.cp] at bP;simp only [ao.cp] at dz;have JK:=yx x.1.path path (by have:=fg.2.1;omega) ag;have ar:=dg (j+1);have lp:=EJ j;unfold fm at ar;rw [abz ab] at ar;unfold ao.cells at bP dz;unfold bg at JK;refine dY ?_;by_cases aR:x.1.arg=arg;rotate_left
 ·have a7:rJ arg path x=false:=by unfold rJ;rw [H1 aR];rfl
  rw [a7,d9 ba,d7] at ar;have ar:xs (j+1)=xs j:=by rw [ar,dg];rfl
  refine aa.da 25 C w4 ?_;refine bD ?_;exact bp.mk (j+1,own) I aw ly DL zm
 refine aa.dy 25 C w4 ?_;cases bk:x.1.path==path with
 | false=>
  have a7:rJ arg path x=false:=by unfold rJ;rw [bk,ak9]
  rw [a7,d9 ba,d7] at ar;have ar:xs (j+1)=xs j:=by rw [ar,dg];rfl
  rw [bk] at JK;refine cB ?_;exact bp.mk (j+1,own) I aw ly DL zm
 | true=>
  have a7:rJ arg path x=true:=by unfold rJ;rw [bk,g7 aR];rfl
  rw [a7,g6 C,ae1] at ar;have ar:xs (j+1)=xs j++[(iq x).bW]:=by rw [ar,dg];rfl
  rw [ao.cp] at ar;unfold ao.cells at ar;have df:(xs (j+1)).length=(xs j).length+1:=by rw [ar];simp
  rw [bk] at JK;refine db ?_;refine aa.gn ai I C C C C C C C er C C C C C C C C aZ hy BB ag (fun b0 I=>?_);refine gf ?_;exact bp.mk (j+1,.own b0) I aw ly AZ zm
theorem Qg (w:bx) (L:List cb) (arg:Int) (path:List Int) (bM:nU w L) (aD:path.length≤3):aV d0 217 [kM w L arg path] (.bool (lh L arg path)):=by
 have an:=bG;refine aV.bl ai Tryz.func217 C C fun s I=>?_
 have Qf:=bM.1;have cI:lh L arg path = !L.any fun x => !x.2&&lg arg path x:=rfl
 unfold kM oM cZ bg;refine gy ?_;refine ae.b9 [1,8,9] C I (σ:=Nat) (fun j=>[(10,.int .i64 (j:Int))]) (fun _=>[]) (fun j=>j≤L.length∧(L.any fun x => !x.2&&lg arg path x)=(L.drop j).any fun x => !x.2&&lg arg path x) (fun j=>L.length-j) 0 ⟨g8 _,rfl⟩ (cz C) a1 ?_;rintro j ⟨aH,aq⟩ I
 try simp only at aH aq I ⊢
 refine b8 ?_;refine ae.cond C (fun aw=>?_) (fun aY=>?_);rotate_left
 ·have aY:j=L.length:=by simp at aY;omega
  rw [eG ag,List.any_nil] at aq;rw [cI,aq];refine ef ?_;exact bA I
 have aw:j<L.length:=by simpa using aw
 obtain ⟨x,ab,bP⟩:=b5 (f:=fun x:cb=>(iq x).bW) aw;have fg:=bM.at (d6 ab);have dz:=zp x fg.1;have bP:(L.map fun x=>(iq x).bW)[j]? = some (iq x).bW:=bP;rw [ao.cp] at bP;simp only [ao.cp] at dz;have zw:=Pu x.1.path path (by have:=fg.2.1;omega) ag;rw [drop_cons ab,ak4] at aq;rw [show lg arg path x=(decide (x.1.arg=arg)&&vx x.1.path path) from rfl] at aq;unfold ao.cells at bP dz;unfold bg at zw;cases az:x.2 with
 | true=>
  rw [az] at dz aq;refine dY ?_;exact bp.mk (j+1) I ⟨aw,by rw [aq];rfl⟩ ck a1 zm
 | false=>
  rw [az] at dz aq;refine dY ?_;by_cases aR:x.1.arg=arg;rotate_left
  ·rw [H1 aR] at aq
   refine aa.da 28 C w4 ?_;refine bD ?_;exact bp.mk (j+1) I ⟨aw,by rw [aq];rfl⟩ ck a1 zm
  refine aa.dy 28 C w4 ?_;rw [g7 aR] at aq;cases bk:vx x.1.path path with
  | false=>
   rw [bk] at zw aq;refine cB ?_;exact bp.mk (j+1) I ⟨aw,by rw [aq];rfl⟩ ck a1 zm
  | true=>
   rw [bk] at zw aq;rw [cI,aq];refine cB ?_;exact bA I
theorem Qh (w:bx) (hw:w.owner.length≤40) (L:List cb) (arg:Int) (path:List Int) (bM:nU w L) (aD:path.length≤2):aV d0 215 [kM w L arg path] (bg (jM w.owner.length L arg path)):=by
 have an:=bG;have Qf:=bM.1;refine aV.bl ai Tryz.func215 C C fun s I=>?_
 obtain ⟨xs,dg⟩:∃ xs:Nat→List af,∀ j,xs j=(jM j L arg path).map bb:=⟨_,fun _=>rfl⟩;have bu:xs 0=[]:=by rw [dg];rfl
 have fg:∀ j,(xs j).length≤j:=fun j=>by
  rw [dg,f0];unfold jM;rw [f0];refine am' (aj1 _ _) (Nat.le_of_eq ap6)
 have vz:∀ j,xs (j+1)=xs j++(if ni L arg path (j:Nat) then [.int .i64 (j:Nat)] else []):=fun j=>by
  rw [dg,dg];unfold jM;rw [as2,aq3,ae1,ae1];congr 1;cases h:ni L arg path (j:Nat) with
  | true=>rw [aj5,g6 (by exact h)];rfl
  | false=>rw [aj5,d9 (by rw [h];simp)];rfl
 have kD:=fun k:Nat=>Jt w L arg path (k:Int) ag
 have lA:∀ k:Nat,(path++[(k:Int)]).length≤3:=fun k=>by rw [f8];simp;omega
 unfold kM oM cZ bg at *;refine gy ?_;refine ae.ih I 3 1 0 fun I=>?_
 refine ae.b9 [1,13] C I (σ:=Nat×bQ) (fun q=>[(14,.int .i64 (q.1:Int)),(3,.aB 1 (xs q.1) q.2)]) (fun q=>[(q.2,.row 3 1 (xs q.1).length)]) (fun q=>q.1≤w.owner.length) (fun q=>w.owner.length-q.1) (0,.nil) (g8 _) ⟨⟨_,rfl,aO⟩,⟨_,rfl,by rw [bu];exact aU.nil hk⟩,trivial⟩ yJ ?_;rintro ⟨j,own⟩ aH I;simp only at aH I ⊢;refine b8 ?_;refine ae.cond C (fun aw=>?_) (fun aY=>?_);rotate_left
 ·have aY:j=w.owner.length:=by simp at aY;omega
  subst aY;rw [dg];refine ef ?_;exact Fin.cG I C aU.bc
 have aw:j<w.owner.length:=by simpa using aw
 have ar:=vz j;have lp:=fg j;have xo:=lA j;have kD:=kD j;refine jG ?_;refine ae.b9 [1,3,4,13,14,18,19] C I (σ:=Nat) (fun k=>[(20,.int .i64 (k:Int)),(5,.bool ((L.take k).any (lg arg (path++[(j:Int)]))))]) (fun _=>[(own,.row 3 1 (xs j).length)]) (fun k=>k≤L.length) (fun k=>L.length-k) 0 (g8 _) (cz C) (aI.ei _) ?_;rintro k aA I
 try simp only at aA I ⊢
 refine b8 ?_;refine ae.cond C (fun cl=>?_) (fun dd=>?_);rotate_left
 ·have dd:k=L.length:=by simp at dd;omega
  subst dd;rw [ae6];have aL:ni L arg path (j:Nat)=L.any (lg arg (path++[(j:Int)])):=rfl;rw [aL] at ar;cases aF:L.any (lg arg (path++[(j:Int)])) with
  | false=>
   rw [aF,d9 ba,d7] at ar;refine bD ?_;exact bp.mk (j+1,own) I aw ly DL DM
  | true=>
   rw [aF,g6 C] at ar;have df:(xs (j+1)).length=(xs j).length+1:=by rw [ar];simp
   refine bD ?_;refine aa.gn ai I C C C C C C C er C C C C C C C C aZ hy ki ag (fun b0 I=>?_);refine gf ?_;exact bp.mk (j+1,.own b0) I aw ly AZ DM
 have cl:k<L.length:=by simpa using cl
 obtain ⟨x,ab,bP⟩:=b5 (f:=fun x:cb=>(iq x).bW) cl;have fg:=bM.at (d6 ab);have dz:=zp x fg.1;have bP:(L.map fun x=>(iq x).bW)[k]? = some (iq x).bW:=bP;rw [ao.cp] at bP;simp only [ao.cp] at dz;have zw:=Pu x.1.path (path++[(j:Int)]) (by have:=fg.2.1;omega) ag;have oK:(L.take (k+1)).any (lg arg (path++[(j:Int)]))=((L.take k).any (lg arg (path++[(j:Int)]))||lg arg (path++[(j:Int)]) x):=by rw [hZ ab,ax5];simp
 unfold ao.cells at bP dz;unfold bg bb at *;cases aF:(L.take k).any (lg arg (path++[(j:Int)])) with
 | true=>
  rw [aF,al9] at oK;refine dY ?_;exact bp.mk (k+1) I cl EM (aI.ei _) EN
 | false=>
  rw [aF,ah1] at oK;rw [show lg arg (path++[(j:Int)]) x=(decide (x.1.arg=arg)&&vx x.1.path (path++[(j:Int)])) from rfl] at oK;refine dY ?_;by_cases aR:x.1.arg=arg;rotate_left
  ·rw [H1 aR,f6] at oK
   refine aM.split 36 C (fun h=>absurd fV aR) (fun _=>?_);refine kh ?_;exact bp.mk (k+1) I cl EM (aI.ei _) EN
  rw [g7 aR,f5] at oK;refine aM.split 36 C (fun _=>?_) (fun h=>absurd aR fV);cases bk:vx x.1.path (path++[(j:Int)]) with
  | false=>
   rw [bk] at zw oK;refine cB ?_;exact bp.mk (k+1) I cl EM (aI.ei _) EN
  | true=>
   rw [bk] at zw oK;refine cB ?_;exact bp.mk (k+1) I cl EM (aI.ei _) EN
theorem Qi (w:bx) (hw:w.owner.length≤40) (L:List cb) (arg:Int) (path:List Int) (bM:nU w L) (aD:path.length≤2):aV d0 214 [kM w L arg path] (.bool (sK w.owner.length L arg path)):=by
 have an:=bG;refine aV.bl ai Tryz.func214 C C fun s I=>?_
 have U:=Qh w hw L arg path bM aD;have eB:sK w.owner.length L arg path=(jM w.owner.length L arg path).all fun s=>lh L arg (path++[s]):=rfl
 have kD:=fun k:Int=>Jt w L arg path k ag
 have lA:∀ k:Int,(path++[k]).length≤3:=fun k=>by rw [f8];simp;omega
 have h5:=fun k:Int=>Qg w L arg (path++[k]) bM (lA k)
 have mB:(jM w.owner.length L arg path).length≤40:=by
  unfold jM;rw [f0];have:=aj1 (fun s:Nat=>ni L arg path (s:Nat)) (ah0 w.owner.length);rw [ap6] at this;omega
 generalize jM w.owner.length L arg path=l at U eB mB;rw [eB];unfold kM oM cZ bg at *;refine cB ?_;refine ae.b9 [1,6,7] C I (σ:=Nat) (fun j=>[(8,.int .i64 (j:Int))]) (fun _=>[]) (fun j=>j≤l.length∧(l.all fun s=>lh L arg (path++[s]))=(l.drop j).all fun s=>lh L arg (path++[s])) (fun j=>l.length-j) 0 ⟨g8 _,rfl⟩ (cz C) a1 ?_;rintro j ⟨aH,aq⟩ I
 try simp only at aH aq I ⊢
 refine b8 ?_;refine ae.cond C (fun aw=>?_) (fun aY=>?_);rotate_left
 ·have aY:j=l.length:=by simp at aY;omega
  rw [eG ag,ap3] at aq;rw [aq];refine ef ?_;exact bA I
 have aw:j<l.length:=by simpa using aw
 obtain ⟨x,ab,bP⟩:=b5 (f:=bb) aw;rw [drop_cons ab,ak'] at aq;have kD:=kD x;have h5:=h5 x;unfold bb at *;cases aF:lh L arg (path++[x]) with
 | false=>
  rw [aF] at h5 aq;rw [aq];refine cB ?_;exact bA I
 | true=>
  rw [aF] at h5 aq;refine cB ?_;exact bp.mk (j+1) I ⟨aw,by rw [aq];rfl⟩ ck a1 qb
theorem JL {a b:Int} {p q:List Int} (aD:p.length≤2) (bk:q.length≤2) (h:bs a p=bs b q):a=b∧p=q:=by
 unfold bs at h;simp only [at4.injEq,and_true] at h;obtain ⟨U,ad,aj,a'⟩:=h;refine ⟨U,?_⟩
 match p,q,aD,bk with
 | [],[],_,_=>rfl
 | [x],[y],_,_=>simp at aj;rw [aj]
 | [x,kS],[y,NO],_,_=>simp at aj a';rw [aj,a']
 | [],[_],_,_=>simp at ad
 | [],[_,_],_,_=>simp at ad
 | [_],[],_,_=>simp at ad
 | [_],[_,_],_,_=>simp at ad
 | [_,_],[],_,_=>simp at ad
 | [_,_],[_],_,_=>simp at ad
def dp.core (k:dp):dp:={ k with gv:=false,bn:=[] }
theorem abA (k:dp) (b:Bool):(k.need b).core=k.core:=rfl
theorem Qj (k:dp) (s:Int):(k.slot s).core=k.core:=rfl
theorem abB (k:dp) (x:cb):(k.ask x).core=k.core.ask x:=by
 unfold dp.ask dp.core
 repeat' split
 all_goals rfl
theorem abC (k:dp) (x:cb):(k.ask x).gv=k.gv:=by
 unfold dp.ask
 repeat' split
 all_goals rfl
theorem ue (σ:dW) (sp:List Int) (k:dp) (q:List Int):(σ.hT sp k) q=if q=sp then k else σ q:=rfl
theorem zx (neg:Bool) (arg:Int) (path:List Int):∀ (j:Nat) (σ:dW) (q:List Int),((gX neg arg path j σ) q).core=(σ q).core
  | 0,σ,q=>by
    rw [gX,ue];split
    · rename_i h;subst h;rfl
    · rfl
  | j+1,σ,q=>by
    rw [gX];simp only [ue];by_cases U:q=bs arg (path.take (j+1))
    · rw [g6 U,abA]
      split
      · rename_i ad;rw [Qj,zx,U,ad]
      · rw [zx,U]
    · rw [d9 U]
      split
      · rename_i ad;rw [Qj,zx,ad]
      · rw [zx]
theorem Qk (neg:Bool) (arg:Int) (path:List Int) (q:List Int):∀ (j:Nat) (σ:dW),(((gX neg arg path j σ) q).gv=true↔(σ q).gv=true∨neg=false∧∃ i,i≤j∧q=bs arg (path.take i))
  | 0,σ=>by
    rw [gX,ue];by_cases h:q=bs arg []
    · rw [g6 h]
      unfold dp.need;simp only [aj0,ai0];rw [h];constructor
      · rintro (U|U)
        · exact .inl U
        · exact .inr ⟨U,0,g9 _,by simp⟩
      · rintro (U|⟨U,_⟩)
        · exact .inl U
        · exact .inr U
    · rw [d9 h]
      constructor
      · exact .inl
      · rintro (U|⟨_,i,aN,U⟩)
        · exact U
        · exact absurd (by rw [U,show i=0 by omega];simp) h
  | j+1,σ=>by
    have aX:=Qk neg arg path q j σ;rw [gX];simp only [ue];by_cases h:q=bs arg (path.take (j+1))
    · rw [g6 h]
      unfold dp.need;simp only [aj0,ai0];have e:∀ k:dp,(k.slot (path.getD j 0)).gv=k.gv:=fun k=>rfl
      have:(if bs arg (path.take (j+1))=bs arg (path.take j) then ((gX neg arg path j σ) (bs arg (path.take j))).slot (path.getD j 0) else (gX neg arg path j σ) (bs arg (path.take (j+1)))).gv=((gX neg arg path j σ) q).gv:=by
        split
        · rename_i ad;rw [e,h,ad]
        · rw [h]
      rw [this,aX];constructor
      · rintro ((U|⟨U,i,aN,ad⟩)|U)
        · exact .inl U
        · exact .inr ⟨U,i,by omega,ad⟩
        · exact .inr ⟨U,j+1,g9 _,h⟩
      · rintro (U|⟨U,_⟩)
        · exact .inl (.inl U)
        · exact .inr U
    · rw [d9 h]
      have:(if q=bs arg (path.take j) then ((gX neg arg path j σ) (bs arg (path.take j))).slot (path.getD j 0) else (gX neg arg path j σ) q).gv=((gX neg arg path j σ) q).gv:=by
        split
        · rename_i ad;rw [← ad];rfl
        · rfl
      rw [this,aX];constructor
      · rintro (U|⟨U,i,aN,ad⟩)
        · exact .inl U
        · exact .inr ⟨U,i,by omega,ad⟩
      · rintro (U|⟨U,i,aN,ad⟩)
        · exact .inl U
        · rcases ar6 i (j+1) with aj|aj
          · exact .inr ⟨U,i,by omega,ad⟩
          · exact absurd (by rw [ad,show i=j+1 by omega]) h
theorem Ql (neg:Bool) (arg:Int) (path:List Int) (q:List Int) (s:Int):∀ (j:Nat) (σ:dW),(s∈((gX neg arg path j σ) q).bn↔s∈(σ q).bn∨∃ i,i<j∧q=bs arg (path.take i)∧s=path.getD i 0)
  | 0,σ=>by
    rw [gX,ue];have:(if q=bs arg [] then (σ (bs arg [])).need neg else σ q).bn=(σ q).bn:=by
      split
      · rename_i h;rw [h];rfl
      · rfl
    rw [this];constructor
    · exact .inl
    · rintro (h|⟨i,h,_⟩)
      · exact h
      · omega
  | j+1,σ=>by
    have aX:=Ql neg arg path q s j σ;rw [gX];simp only [ue]
    have e:(if q=bs arg (path.take (j+1)) then (if bs arg (path.take (j+1))=bs arg (path.take j) then ((gX neg arg path j σ) (bs arg (path.take j))).slot (path.getD j 0) else (gX neg arg path j σ) (bs arg (path.take (j+1)))).need neg
        else (if q=bs arg (path.take j) then ((gX neg arg path j σ) (bs arg (path.take j))).slot (path.getD j 0) else (gX neg arg path j σ) q)).bn=(if q=bs arg (path.take j) then ((gX neg arg path j σ) q).slot (path.getD j 0) else (gX neg arg path j σ) q).bn:=by
      by_cases h:q=bs arg (path.take (j+1))
      · rw [g6 h,h]
        show (if _ then _ else _:dp).bn=_;split
        · rename_i ad;rw [ad]
        · rfl
      · rw [d9 h]
        split
        · rename_i ad;rw [ad]
        · rfl
    rw [e];by_cases h:q=bs arg (path.take j)
    · rw [g6 h]
      show s∈m8 _ _↔_;rw [ME,aX];constructor
      · rintro (U|U|⟨i,aN,U,ad⟩)
        · exact .inr ⟨j,am1 _,h,U⟩
        · exact .inl U
        · exact .inr ⟨i,by omega,U,ad⟩
      · rintro (U|⟨i,aN,U,ad⟩)
        · exact .inr (.inl U)
        · rcases ar6 i j with aj|aj
          · exact .inr (.inr ⟨i,aj,U,ad⟩)
          · rw [show i=j by omega] at ad;exact .inl ad
    · rw [d9 h,aX]
      constructor
      · rintro (U|⟨i,aN,U,ad⟩)
        · exact .inl U
        · exact .inr ⟨i,by omega,U,ad⟩
      · rintro (U|⟨i,aN,U,ad⟩)
        · exact .inl U
        · rcases ar6 i j with aj|aj
          · exact .inr ⟨i,aj,U,ad⟩
          · exact absurd (by rw [U,show i=j by omega]) h
theorem sJ.path {w:bx} {L:List cb} (h:sJ w L):∀ x∈L,x.1.path.length≤2:=fun x ab=>(DN (h x ab).1 (h x ab).2).1
theorem abD (σ:dW) (x:cb) (q:List Int):((addLit σ x) q).core=if q=bs x.1.arg x.1.path then (σ q).core.ask x else (σ q).core:=by
 unfold addLit;rw [ue];split
 ·rename_i h;rw [abB,zx,h]
 ·rw [zx]
theorem abE (σ:dW) (x:cb) (q:List Int):((addLit σ x) q).gv=true↔(σ q).gv=true∨x.2=false∧∃ i,i≤x.1.path.length∧q=bs x.1.arg (x.1.path.take i):=by
 rw [← Qk];unfold addLit;rw [ue];split
 ·rename_i h;rw [abC,h]
 ·rfl
theorem abF (σ:dW) (x:cb) (q:List Int) (s:Int):s∈((addLit σ x) q).bn↔s∈(σ q).bn∨∃ i,i<x.1.path.length∧q=bs x.1.arg (x.1.path.take i)∧s=x.1.path.getD i 0:=by
 rw [← Ql x.2];unfold addLit;rw [ue];split
 ·rename_i h;rw [MF,h]
 ·rfl
theorem E8 {x:cb} {arg:Int} {path:List Int}:lg arg path x=true↔x.1.arg=arg∧path.length≤x.1.path.length∧x.1.path.take path.length=path:=by
 unfold lg vx;simp
theorem abG {x:cb} {arg:Int} {path:List Int} (ab:x.1.path.length≤2) (aD:path.length≤2):(∃ i,i≤x.1.path.length∧bs arg path=bs x.1.arg (x.1.path.take i))↔lg arg path x=true:=by
 rw [E8];constructor
 ·rintro ⟨i,aN,h⟩
  obtain ⟨U,ad⟩:=JL aD ui h;have aE:path.length=i:=by rw [ad,ae8];omega
  exact ⟨U.symm,by omega,by rw [aE];exact ad.symm⟩
 ·rintro ⟨U,ad,aj⟩
  exact ⟨path.length,ad,by rw [U,aj]⟩
theorem Qm:∀ (l:List Int) (i:Nat),i<l.length→l.take (i+1)=l.take i++[l.getD i 0]:=fun l i aN=>by
 rw [an2,d5,f7 aN];rfl
theorem abH {x:cb} {arg s:Int} {path:List Int} (ab:x.1.path.length≤2) (aD:path.length≤2):(∃ i,i<x.1.path.length∧bs arg path=bs x.1.arg (x.1.path.take i)∧s=x.1.path.getD i 0)↔lg arg (path++[s]) x=true:=by
 rw [E8,f8,List.length_singleton];constructor
 ·rintro ⟨i,aN,h,rfl⟩
  obtain ⟨U,ad⟩:=JL aD ui h;have aE:path.length=i:=by rw [ad,ae8];omega
  exact ⟨U.symm,by omega,by rw [aE,Qm _ _ aN,← ad]⟩
 ·rintro ⟨U,ad,aj⟩
  rw [Qm _ _ ag] at aj;obtain ⟨a',bz⟩:=List.append_inj' aj rfl;exact ⟨path.length,by omega,by rw [U,a'],(at4.inj bz).1.symm⟩
theorem exists_cons {q:cb→Prop} {x:cb} {r:List cb}:(∃ y∈x::r,q y)↔q x∨∃ y∈r,q y:=by simp
section
variable {w:bx} {arg:Int} {path:List Int} (aD:path.length≤2)
include aD
theorem Qn:∀ (L:List cb) (σ:dW),sJ w L→((L.foldl addLit σ) (bs arg path)).core=(fm L arg path).foldl dp.ask (σ (bs arg path)).core
  | [],σ,_=>rfl
  | x::r,σ,h=>by
    rw [ah4,Qn r _ (fun y ax=>h y (i6 _ ax)),abD];unfold fm;rw [aj5];have ab:=h.path x i8;by_cases e:rJ arg path x=true
    · rw [g6 e]
      unfold rJ at e;simp only [f9,i7,am7] at e;rw [g6 (by rw [e.1,e.2]),ah4]
    · rw [d9 e,d9]
      intro ad;obtain ⟨aj,a'⟩:=JL aD ab ad;exact e (by unfold rJ;simp [aj,a'])
theorem Qo:∀ (L:List cb) (σ:dW),sJ w L→(((L.foldl addLit σ) (bs arg path)).gv=true↔(σ (bs arg path)).gv=true∨∃ x∈L,x.2=false∧lg arg path x=true)
  | [],σ,_=>by simp
  | x::r,σ,h=>by
    rw [ah4,Qo r _ (fun y ax=>h y (i6 _ ax)),abE,abG (h.path x i8) aD,or_assoc,exists_cons]
theorem Qp (s:Int):∀ (L:List cb) (σ:dW),sJ w L→(s∈((L.foldl addLit σ) (bs arg path)).bn↔s∈(σ (bs arg path)).bn∨∃ x∈L,lg arg (path++[s]) x=true)
  | [],σ,_=>by simp
  | x::r,σ,h=>by
    rw [ah4,Qp s r _ (fun y ax=>h y (i6 _ ax)),abF,abH (h.path x i8) aD,or_assoc,exists_cons]
variable {L:List cb} (bM:sJ w L)
include bM
theorem Qq:((et L) (bs arg path)).gv = !lh L arg path:=by
 rw [af4];unfold et lh;rw [Qo aD L wW bM];simp [wW,iU]
theorem Ci (s:Int):s∈((et L) (bs arg path)).bn↔ni L arg path s=true:=by
 unfold et ni;rw [Qp aD s L wW bM];simp [wW,iU]
omit aD in
theorem xV {s:Int} (h:ni L arg path s=true):0≤s∧s<(w.owner.length:Int)∧(path++[s]).length≤2:=by
 unfold ni at h;obtain ⟨x,ab,h⟩:=ag5.1 h;obtain ⟨-,ad,aj⟩:=E8.1 h;obtain ⟨a',bz⟩:=DN (bM x ab).1 (bM x ab).2;have hm:s∈x.1.path:=List.mem_of_mem_take (by rw [aj];simp);have:=bz s hm;exact ⟨this.1,this.2,by omega⟩
theorem E9 {s:Int}:s∈jM w.owner.length L arg path↔s∈((et L) (bs arg path)).bn:=by
 rw [Ci aD bM];unfold jM;simp only [ag0,ae3,aj8];constructor
 ·rintro ⟨n,⟨-,h⟩,rfl⟩;exact h
 ·intro h
  have:=xV bM h;exact ⟨s.toNat,⟨by omega,by rw [show ((s.toNat:Nat):Int)=s by omega];exact h⟩,by omega⟩
theorem abI:sK w.owner.length L arg path=Bi (et L) arg path:=by
 unfold sK Bi;rw [af4,ag6,ag6];constructor <;>
 ·intro h s ar
  have hF:=ar
  first|rw [E9 aD bM] at ar|rw [← E9 aD bM] at ar
  have fo:ni L arg path s=true:=by
   first|exact (Ci aD bM s).1 ar|exact (Ci aD bM s).1 hF
  have ad:=Qq (arg:=arg) (xV bM fo).2.2 bM;have U:=h s ar;rw [ad] at *;simpa using U
end
def vG (x:cb):Bool:=decide (x.1.op=2)&&(decide (x.1.cls>1) != x.2)
theorem Qr:∀ (l:List cb) (k:dp),pE l (k.low,k.high,k.e2)=if l.any vG then none else some ((l.foldl dp.ask k).low,(l.foldl dp.ask k).high,(l.foldl dp.ask k).e2)
  | [],k=>rfl
  | x::r,k=>by
    have aX:=Qr r (k.ask x);rw [pE,ak4,ah4];by_cases ad:x.1.op=2
    · have e:vG x=(decide (x.1.cls>1) != x.2):=by unfold vG;rw [g7 ad,f5]
      rw [g6 ad,e];have cd:(k.ask x).low=k.low:=by unfold dp.ask;rw [g6 ad];split<;>rfl
      have b1:(k.ask x).high=k.high:=by unfold dp.ask;rw [g6 ad];split<;>rfl
      have ek:(k.ask x).e2=k.e2:=by unfold dp.ask;rw [g6 ad];split<;>rfl
      rw [cd,b1,ek] at aX;cases an:(decide (x.1.cls>1) != x.2) with
      | true=>simp
      | false=>rw [ah1,d9 ba,aX]
    · have e:vG x=false:=by unfold vG;rw [H1 ad,f6]
      rw [d9 ad,e,ah1,← aX];unfold dp.ask;rw [d9 ad];split
      · split<;>rfl
      · split<;>rfl
theorem JM:∀ (k:Nat) (n:Int) (l:List Int),B3 k n l=l7 k n l
 | 0,_,_=>rfl
 | k+1,n,l=>by rw [B3,l7,JM k]
theorem Qs:∀ (l:List cb) (k:dp) (c:Nat),(l.foldl dp.ask k).fS.testBit c=(k.fS.testBit c||l.any fun x=>decide (x.1.op=2)&&(!x.2&&decide (x.1.cls.toNat=c)))
  | [],k,c=>by simp
  | x::r,k,c=>by
    rw [ah4,Qs r,ak4,← aq8];congr 1;unfold dp.ask;by_cases ad:x.1.op=2
    · rw [g6 ad,g7 ad,f5]
      cases x.2 with
      | true=>simp
      | false=>simp [al5,aj7]
    · rw [d9 ad,H1 ad,f6,an0]
      repeat' split
      all_goals rfl
theorem Qt:∀ (l:List cb) (k:dp) (c:Nat),(l.foldl dp.ask k).no.testBit c=(k.no.testBit c||l.any fun x=>decide (x.1.op=2)&&(x.2&&decide (x.1.cls.toNat=c)))
  | [],k,c=>by simp
  | x::r,k,c=>by
    rw [ah4,Qt r,ak4,← aq8];congr 1;unfold dp.ask;by_cases ad:x.1.op=2
    · rw [g6 ad,g7 ad,f5]
      cases x.2 with
      | false=>simp
      | true=>simp [al5,aj7]
    · rw [d9 ad,H1 ad,f6,an0]
      repeat' split
      all_goals rfl
theorem Qu:∀ (l:List cb) (k:dp),(l.foldl dp.ask k).whole=(k.whole||l.any fun x => !decide (x.1.op=2) && !x.2)
  | [],k=>by simp
  | x::r,k=>by
    rw [ah4,Qu r,ak4,← aq8];congr 1;unfold dp.ask;by_cases ad:x.1.op=2
    · rw [g6 ad,g7 ad]
      split<;>simp
    · rw [d9 ad,H1 ad]
      cases ab:x.2<;>by_cases aj:x.1.op=3<;>simp [aj]
theorem Qv {p q b:cb→Bool}:∀ (l:List cb),(∀ x∈l,b x=(p x||q x))→l.any b = !(l.all (fun x => !p x)&&l.all (fun x => !q x))
  | [],_=>rfl
  | x::r,h=>by
    rw [ak4,ak',ak',Qv r (fun y ax=>h y (i6 _ ax)),h x i8];cases p x<;>cases q x<;>simp
section
variable {w:bx} (hw:gg w) {arg:Int} {path:List Int} (aD:path.length≤2) {L:List cb} (bM:sJ w L)
include aD bM
theorem E':((et L) (bs arg path)).core=(fm L arg path).foldl dp.ask iU:=Qn aD L wW bM
theorem vH (c:Nat):((et L) (bs arg path)).fS.testBit c=(fm L arg path).any fun x=>decide (x.1.op=2)&&(!x.2&&decide (x.1.cls.toNat=c)):=by
 have h:((et L) (bs arg path)).fS=((fm L arg path).foldl dp.ask iU).fS:=by rw [← E' aD bM];rfl
 rw [h,Qs];simp [iU]
theorem Fa (c:Nat):((et L) (bs arg path)).no.testBit c=(fm L arg path).any fun x=>decide (x.1.op=2)&&(x.2&&decide (x.1.cls.toNat=c)):=by
 have h:((et L) (bs arg path)).no=((fm L arg path).foldl dp.ask iU).no:=by rw [← E' aD bM];rfl
 rw [h,Qt];simp [iU]
theorem Qw:((et L) (bs arg path)).whole=(fm L arg path).any fun x => !decide (x.1.op=2) && !x.2:=by
 have h:((et L) (bs arg path)).whole=((fm L arg path).foldl dp.ask iU).whole:=by rw [← E' aD bM];rfl
 rw [h,Qu];simp [iU]
omit aD in
theorem sO {x:cb} (ab:x∈fm L arg path) (ad:x.1.op=2):0≤x.1.cls∧x.1.cls<3+(w.ps.length:Int):=by
 unfold fm at ab;obtain ⟨az,aE⟩:=bM x (ae3.1 ab).1;simp only [h9,aE,ag7,g6 ad,f9,i7] at az;have:=az.2.2.2.2.2.2.2;omega
theorem Qx {c:Nat} (h:((et L) (bs arg path)).fS.testBit c=true):c<3+w.ps.length:=by
 rw [vH aD bM] at h;obtain ⟨x,ab,h⟩:=ag5.1 h;simp only [f9,i7] at h;have:=sO bM ab h.1;omega
include hw
theorem Qy {c:Nat} (aF:c<3):va (et L) arg path c=((fm L arg path).all (fun x => !(decide (x.1.op=2)&&(!x.2 && !(decide (x.1.cls=0)||decide (x.1.cls=c)))))&&((fm L arg path).all (fun x => !(decide (x.1.op=2)&&(x.2&&(decide (x.1.cls=0)||decide (x.1.cls=c)))))&&sK w.owner.length L arg path)):=by
 have tL:=hw.jZ;unfold va;rw [abI aD bM];have an:∀ i,(1|||2^c:Nat).testBit i=(decide (i=0)||decide (i=c)):=fun i=>by
  rw [al5,BW,aj7];congr 1;rw [af4,i7,i7];omega
 congr 1
 ·rw [af4,i7,ag6]
  constructor
  ·intro h x ab
   cases cY:(decide (x.1.op=2)&&(!x.2 && !(decide (x.1.cls=0)||decide (x.1.cls=c)))) with
   | false=>rfl
   | true=>
    exfalso;simp only [f9,i7,ai0,ak7,decide_eq_false_iff_not] at cY;have cj:=sO bM ab cY.1;have hm:((et L) (bs arg path)).fS.testBit x.1.cls.toNat=true:=by
     rw [vH aD bM,ag5];exact ⟨x,ab,by simp [cY.1,cY.2.1]⟩
    have:=ae7 (fun n=>n.testBit x.1.cls.toNat) h;simp only [k2,ak2,as1,hm,an,ap8,f5] at this;rw [show (18446744073709551615:Nat)=2^64-1 by decide,ai1,g7 (by omega:x.1.cls.toNat<64),H1 ag,H1 ag] at this;cases this
  ·intro h
   apply al8;intro i;rw [ap8];cases hm:((et L) (bs arg path)).fS.testBit i with
   | false=>unfold k2;rw [ak2,hm,f6]
   | true=>
    have aN:=Qx aD bM hm;rw [vH aD bM,ag5] at hm;obtain ⟨x,ab,hm⟩:=hm;simp only [f9,i7,ai0] at hm;have:=h x ab;have cj:=sO bM ab hm.1;simp only [hm.1,hm.2.1,decide_true,aj3,f5,aA1,aj0,i7] at this;unfold k2;rw [ak2,as1,an,show (18446744073709551615:Nat)=2^64-1 by decide,ai1,g7 (by omega:i<64)];rcases (by omega:i=0∨i=c) with rfl|rfl
    ·simp
    ·simp
 congr 1;rw [af4,i7,ag6];constructor
 ·intro h x ab
  cases cY:(decide (x.1.op=2)&&(x.2&&(decide (x.1.cls=0)||decide (x.1.cls=c)))) with
  | false=>rfl
  | true=>
   exfalso;simp only [f9,i7,aj0] at cY;have cj:=sO bM ab cY.1;have hm:((et L) (bs arg path)).no.testBit x.1.cls.toNat=true:=by
    rw [Fa aD bM,ag5];exact ⟨x,ab,by simp [cY.1,cY.2.1]⟩
   have:=ae7 (fun n=>n.testBit x.1.cls.toNat) h;simp only [ak2,hm,an,ap8,f5,ak7,decide_eq_false_iff_not] at this;omega
 ·intro h
  apply al8;intro i;rw [ap8,ak2,an];cases hm:((et L) (bs arg path)).no.testBit i with
  | false=>rfl
  | true=>
   rw [Fa aD bM,ag5] at hm;obtain ⟨x,ab,hm⟩:=hm;simp only [f9,i7] at hm;have:=h x ab;have cj:=sO bM ab hm.1;simp only [hm.1,hm.2.1,decide_true,f5,ai0,ak7,decide_eq_false_iff_not] at this;simp only [f5,ak7,decide_eq_false_iff_not];omega
theorem abJ:vy w.owner.length L arg path=xc (et L) arg path:=by
 have aN:=Qr (fm L arg path) iU;have aF:=E' (arg:=arg) aD bM;have U:((et L) (bs arg path)).low=((fm L arg path).foldl dp.ask iU).low:=by rw [← aF];rfl
 have ad:((et L) (bs arg path)).high=((fm L arg path).foldl dp.ask iU).high:=by rw [← aF];rfl
 have aj:((et L) (bs arg path)).e2=((fm L arg path).foldl dp.ask iU).e2:=by rw [← aF];rfl
 unfold vy xc xb;rw [Qy hw aD bM ag,U,ad,aj];rw [show ((-1000000000:Int),(1000000000:Int),([]:List Int))=(iU.low,iU.high,iU.e2) from rfl,aN];have an:(fm L arg path).any vG = !((fm L arg path).all (fun x => !(decide (x.1.op=2)&&(!x.2 && !(decide (x.1.cls=0)||decide (x.1.cls=(1:Nat))))))&&(fm L arg path).all (fun x => !(decide (x.1.op=2)&&(x.2&&(decide (x.1.cls=0)||decide (x.1.cls=(1:Nat))))))):=by
  have e:∀ x∈fm L arg path,vG x=(decide (x.1.op=2)&&(!x.2 && !(decide (x.1.cls=0)||decide (x.1.cls=(1:Nat))))||decide (x.1.op=2)&&(x.2&&(decide (x.1.cls=0)||decide (x.1.cls=(1:Nat))))):=by
   intro x ab;unfold vG;by_cases ad:x.1.op=2
   ·have:=sO bM ab ad
    rw [g7 ad];have cd:decide (x.1.cls>1) = !(decide (x.1.cls=0)||decide (x.1.cls=(1:Nat))):=by
     rw [af4];simp;omega
    rw [cd];cases x.2<;>simp
   ·rw [H1 ad];rfl
  exact Qv _ e
 rw [an];cases (fm L arg path).all (fun x => !(decide (x.1.op=2)&&(!x.2 && !(decide (x.1.cls=0)||decide (x.1.cls=(1:Nat)))))) with
 | false=>simp
 | true=>
  cases (fm L arg path).all (fun x => !(decide (x.1.op=2)&&(x.2&&(decide (x.1.cls=0)||decide (x.1.cls=(1:Nat)))))) with
  | false=>simp
  | true=>simp only [Bool.and_self,aj',af6,ah9,f5,JM]
theorem abK:t' w.owner.length L arg path=xa (et L) arg path:=by
 unfold t' xa;rw [Qy hw aD bM ag,Qw aD bM,← aC4,← aC4];congr 1;rw [af4];simp only [f9,ag6,ai0,ak3];have e:∀ x∈fm L arg path,(qo x=false↔(¬(decide (x.1.op=2)=false∧x.2=false)∧(decide (x.1.op=2)&&(!x.2 && !(decide (x.1.cls=0)||decide (x.1.cls=(2:Nat)))))=false)∧(decide (x.1.op=2)&&(x.2&&(decide (x.1.cls=0)||decide (x.1.cls=(2:Nat)))))=false):=by
  intro x ab;unfold qo;by_cases ad:x.1.op=2<;>cases x.2<;>simp [ad]<;>omega
 constructor
 ·intro h
  exact ⟨⟨fun x ab=>((e x ab).1 (h x ab)).1.1,fun x ab=>((e x ab).1 (h x ab)).1.2⟩,fun x ab=>((e x ab).1 (h x ab)).2⟩
 ·rintro ⟨⟨U,ad⟩,aj⟩ x ab
  exact (e x ab).2 ⟨⟨U x ab,ad x ab⟩,aj x ab⟩
end
theorem JN {l lv:List Int} {f g:Int→Bool} (h:∀ s,s∈l↔s∈lv) (a7:∀ s∈l,f s=g s):l.any f=lv.any g:=by
 rw [af4,ag5,ag5];constructor
 ·rintro ⟨s,ar,e⟩;exact ⟨s,(h s).1 ar,by rw [← a7 s ar];exact e⟩
 ·rintro ⟨s,ar,e⟩;exact ⟨s,(h s).2 ar,by rw [a7 s ((h s).2 ar)];exact e⟩
def nV (x:cb):Bool := !decide (x.1.op=2)||(decide (x.1.cls=1)||decide (x.1.cls=2))
theorem JO (a:Nat→Bool) (c k:Nat) (b:Bool):((if k=c then true else a k)||b)=(a k||(decide (c=k)||b)):=by
 by_cases h:k=c
 ·rw [g6 h,g7 h.symm];simp
 ·rw [d9 h,H1 (Ne.symm h)];simp
theorem Fb:∀ (l:List cb) (a:(Nat→Bool)×(Nat→Bool)),qp l a=if l.any (fun x=>nV x && !x.2) then none else
    some (fun k=>a.1 k||l.any (fun x => !nV x&&(!x.2&&decide (x.1.cls.toNat=k))),fun k=>a.2 k||l.any (fun x => !nV x&&(x.2&&decide (x.1.cls.toNat=k))))
  | [],a=>by rw [qp];simp
  | x::r,a=>by
    rw [qp,ak4];simp only [ak4];by_cases h:x.1.op≠2∨x.1.cls=1∨x.1.cls=2
    · have e:nV x=true:=by unfold nV;simpa [or_assoc] using h
      rw [g6 h,e];cases x.2 with
      | true=>rw [g6 C,Fb r a];simp only [aj',ak9,ah1,f6]
      | false=>simp
    · have e:nV x=false:=by
        rw [af5];intro e;apply h;unfold nV at e;simpa [or_assoc] using e
      rw [d9 h,e];cases x.2 with
      | true=>
        rw [g6 C,Fb r _];simp only [JO,aj',aj3,ak9,ah1,f6,f5]
      | false=>
        rw [d9 ba,Fb r _];simp only [JO,aj',aj3,ak9,ah1,f6,f5]
theorem Qz (w:bx) (L:List cb) (cn:List Int→Bool) (arg:Int) (path:List Int):∀ (l:List Int) (a:(Nat→Bool)×(Nat→Bool)),sL w L cn arg path l a=if l.any (fun s => !lh L arg (path++[s]) && !cn (path++[s])) then none else
    some (fun k=>a.1 k||l.any (fun s => !lh L arg (path++[s])&&decide (jL w s=k)),fun k=>a.2 k||l.any (fun s => !cn (path++[s])&&decide (jL w s=k)))
  | [],a=>by rw [sL];simp
  | s::r,a=>by
    rw [sL,ak4];simp only [ak4];cases aF:(!lh L arg (path++[s]) && !cn (path++[s])) with
    | true=>simp
    | false=>
      rw [d9 ba,ah1,Qz w L cn arg path r _];cases lh L arg (path++[s])<;>cases cn (path++[s])<;>simp only [JO,jL,aj',aj3,ak9,ah1,f6,f5,ag7,ah9,af6]<;>rfl
theorem JP {w:bx} {σ:dW} {cn:List Int→Bool} {arg:Int} {path:List Int}:∀ {l:List Int} {m n:Nat},l.any (fun s=>(σ (bs arg (path++[s]))).gv && !cn (path++[s]))=true→pv w σ cn arg path l m n=none
  | s::r,m,n,h=>by
    rw [pv];rw [ak4] at h;cases aF:((σ (bs arg (path++[s]))).gv && !cn (path++[s])) with
    | true=>rfl
    | false=>
      rw [aF,ah1] at h;rw [d9 ba];split
      · exact JP h
      · split<;>exact JP h
theorem Fc {w:bx} {σ:dW} {cn:List Int→Bool} {arg:Int} {path:List Int}:∀ {l:List Int} {m n:Nat},l.any (fun s=>(σ (bs arg (path++[s]))).gv && !cn (path++[s]))=false →
    ∃ jq n',pv w σ cn arg path l m n=some (jq,n')∧(∀ k,jq.testBit k=(m.testBit k||l.any fun s=>(σ (bs arg (path++[s]))).gv&&decide (jL w s=k)))∧∀ k,n'.testBit k=(n.testBit k||l.any fun s => !cn (path++[s])&&decide (jL w s=k))
  | [],m,n,_=>⟨m,n,rfl,fun k=>by simp,fun k=>by simp⟩
  | s::r,m,n,h=>by
    rw [ak4,ak7] at h;obtain ⟨U,ad⟩:=h;rw [pv,d9 (by rw [U];simp)];simp only [ak4];by_cases az:(σ (bs arg (path++[s]))).gv=true
    · rw [az,f5,aA2] at U
      obtain ⟨jq,n',e,hm,fZ⟩:=Fc (w:=w) (σ:=σ) (cn:=cn) (arg:=arg) (path:=path) (l:=r) (m:=m|||2^jL w s) (n:=n) ad;refine ⟨jq,n',by rw [g6 az];exact e,fun k=>?_,fun k=>?_⟩
      · rw [hm,az,al5,aj7,f5,aq8]
      · rw [fZ,U];simp
    · rw [d9 az]
      have az:(σ (bs arg (path++[s]))).gv=false:=by simpa using az
      by_cases aF:cn (path++[s])=true
      · obtain ⟨jq,n',e,hm,fZ⟩:=Fc (w:=w) (σ:=σ) (cn:=cn) (arg:=arg) (path:=path) (l:=r) (m:=m) (n:=n) ad
        refine ⟨jq,n',by rw [g6 aF];exact e,fun k=>?_,fun k=>?_⟩
        · rw [hm,az];simp
        · rw [fZ,aF];simp
      · obtain ⟨jq,n',e,hm,fZ⟩:=Fc (w:=w) (σ:=σ) (cn:=cn) (arg:=arg) (path:=path) (l:=r) (m:=m) (n:=n|||2^jL w s) ad
        have m2:cn (path++[s])=false:=by simpa using aF
        refine ⟨jq,n',by rw [d9 aF];exact e,fun k=>?_,fun k=>?_⟩
        · rw [hm,az];simp
        · rw [fZ,m2,al5,aj7,aj3,f5,aq8]
theorem QA {w:bx} (hw:gg w) (m:Nat) (k:Nat):∀ i,i≤w.ps.length→(((ah0 i).foldl (tK w) m).testBit k=true↔m.testBit k=true∨∃ j,j<i∧m.testBit (3+j)=true∧((eV w.ps).getD (3+j) 0).testBit k=true)
  | 0,_=>by simp
  | i+1,aN=>by
    have aX:=fun k=>QA hw m k i ag
    rw [as2,List.foldl_append,ah4,av8];have an:((ah0 i).foldl (tK w) m).testBit (3+i)=m.testBit (3+i):=by
      rw [af4,aX (3+i)];constructor
      · rintro (h|⟨j,aH,-,h⟩)
        · exact h
        · have:=zj hw (3+j+1) (3+j) (3+i) ag ag h;omega
      · exact .inl
    have e:∀ M,tK w M i=if M.testBit (3+i) then M|||(eV w.ps).getD (3+i) 0 else M:=fun M=>rfl
    rw [e,an];by_cases aj:m.testBit (3+i)=true
    · rw [g6 aj,al5,aj0,aX]
      constructor
      · rintro ((h|⟨j,aH,h,eL⟩)|h)
        · exact .inl h
        · exact .inr ⟨j,by omega,h,eL⟩
        · exact .inr ⟨i,by omega,aj,h⟩
      · rintro (h|⟨j,aH,h,eL⟩)
        · exact .inl (.inl h)
        · rcases ah5.1 aH with aH|rfl
          · exact .inl (.inr ⟨j,aH,h,eL⟩)
          · exact .inr eL
    · rw [d9 aj,aX]
      constructor
      · rintro (h|⟨j,aH,h,eL⟩)
        · exact .inl h
        · exact .inr ⟨j,by omega,h,eL⟩
      · rintro (h|⟨j,aH,h,eL⟩)
        · exact .inl h
        · rcases ah5.1 aH with aH|rfl
          · exact .inr ⟨j,aH,h,eL⟩
          · exact absurd h aj
theorem abL {w:bx} (hw:gg w) {f a2:Nat→Bool} {m n:Nat} (a7:∀ k,1≤k→f k=m.testBit k) (abM:f 0=false) (xW:m.testBit 1=false∧m.testBit 2=false) (hm:∀ k,m.testBit k=true→k<3+w.ps.length) (aR:∀ k,3≤k→a2 k=n.testBit k) :
  ((ah0 (3+w.ps.length)).all fun k => !(hp w.ps w.ps.length f k&&a2 k))=decide (k2 (rm w m) 1 &&& n=0):=by
 have tL:=hw.jZ;have sq:∀ k,((rm w m).testBit k=true↔m.testBit k=true∨∃ j,j<w.ps.length∧m.testBit (3+j)=true∧((eV w.ps).getD (3+j) 0).testBit k=true):=fun k=>QA hw m k w.ps.length (g9 _)
 have cj:∀ k,3≤k→hp w.ps w.ps.length f k=(rm w m).testBit k:=fun k aA=>by
  rw [af4,I9 hw _ _ _ aA (g9 _),sq,a7 k ag];constructor <;>
  ·rintro (h|⟨j,aH,h,eL⟩)
   ·exact .inl h
   ·exact .inr ⟨j,aH,by first|rw [← a7 _ ag];exact h|rw [a7 _ ag];exact h,eL⟩
 have abN:∀ k,1≤k→k<3→(rm w m).testBit k=false:=fun k U aj=>by
  rw [af5];intro h;rcases (sq k).1 h with h|⟨j,aH,-,h⟩
  ·rcases (by omega:k=1∨k=2) with rfl|rfl
   ·rw [xW.1] at h;cases h
   ·rw [xW.2] at h;cases h
  ·have:=zj hw (3+j+1) (3+j) k ag ag h
   omega
 rw [af4,ag6,i7];constructor
 ·intro h
  apply al8;intro i;unfold k2;rw [ap8,ak2,ak2,as1,BW];by_cases bu:i=0
  ·subst bu
   rw [show (18446744073709551615:Nat).testBit 0=true from rfl];simp
  by_cases aj:i<3
  ·rw [abN i ag aj];rfl
  ·cases hu:(rm w m).testBit i with
   | false=>rfl
   | true=>
    have aN:i<3+w.ps.length:=by
     rcases (sq i).1 hu with h|⟨j,aH,-,h⟩
     ·exact hm i h
     ·have:=zj hw (3+j+1) (3+j) i ag ag h
      omega
    have:=h i (aj8.2 aN);rw [cj i ag,hu,f5,aR i ag,ai0] at this;rw [this,ak9]
 ·intro h k aA
  have aA:=aj8.1 aA;by_cases aj:k<3
  ·rw [I8 hw _ _ _ aj (g9 _)]
   rcases (by omega:k=0∨k=1∨k=2) with rfl|rfl|rfl
   ·rw [abM];rfl
   ·rw [a7 1 ag,xW.1];rfl
   ·rw [a7 2 ag,xW.2];rfl
  ·rw [cj k ag,aR k ag]
   have:=ae7 (fun n=>n.testBit k) h;unfold k2 at this;simp only [ap8,ak2,as1,BW] at this;rw [show (18446744073709551615:Nat)=2^64-1 by decide,ai1,g7 (by omega:k<64),H1 (by omega:¬ k=0)] at this;cases hu:(rm w m).testBit k with
   | false=>rfl
   | true=>rw [hu] at this;simpa using this
section
variable {w:bx} (hw:gg w) {arg:Int} {path:List Int} (aD:path.length≤2) {L:List cb} (bM:sJ w L)
include aD bM hw
omit aD in
theorem JQ {s:Int} (h:ni L arg path s=true):3≤jL w s∧jL w s<3+w.ps.length:=by
 have U:=xV bM h;have aw:s.toNat<w.owner.length:=by omega
 have:=hw.own _ (List.getElem_mem aw);unfold jL;rw [d5,f7 aw,ae'];omega
theorem abO {ej zy:List Int→Bool} (aF:∀ s,ni L arg path s=true→ej (path++[s])=zy (path++[s])):xL w L ej arg path=(xd w (et L) zy arg path).2:=by
 have gm:∀ s,s∈jM w.owner.length L arg path↔s∈((et L) (bs arg path)).bn:=fun s=>E9 aD bM
 have uf:∀ s∈jM w.owner.length L arg path,ni L arg path s=true:=fun s ar=>(Ci aD bM s).1 ((gm s).1 ar)
 have eM:∀ s∈jM w.owner.length L arg path,(!lh L arg (path++[s]))=((et L) (bs arg (path++[s]))).gv:=fun s ar=>(Qq (xV bM (uf s ar)).2.2 bM).symm
 unfold xL xd;rw [Fb,Qw aD bM,vH aD bM,vH aD bM,Fa aD bM];by_cases an:(fm L arg path).any (fun x=>nV x && !x.2)=true
 ·rw [g6 an,g6]
  obtain ⟨x,ab,h⟩:=ag5.1 an;simp only [aj0,ag5];unfold nV at h;simp only [f9,aj0,ai0,i7,decide_eq_false_iff_not] at h;obtain ⟨U,ad⟩:=h;rcases U with U|U|U
  ·exact .inl ⟨x,ab,by simp [U,ad]⟩
  ·by_cases aj:x.1.op=2
   ·exact .inr (.inl ⟨x,ab,by simp [U,ad,aj]⟩)
   ·exact .inl ⟨x,ab,by simp [aj,ad]⟩
  ·by_cases aj:x.1.op=2
   ·exact .inr (.inr (.inl ⟨x,ab,by simp [U,ad,aj]⟩))
   ·exact .inl ⟨x,ab,by simp [aj,ad]⟩
 rw [d9 an];have dR:∀ x∈fm L arg path,x.2=false→x.1.op=2∧x.1.cls≠1∧x.1.cls≠2:=by
  intro x ab ad;have:=ak3.1 (af5.2 an) x ab;unfold nV at this;rw [ad] at this;simpa using this
 have cd:(fm L arg path).any (fun x => !decide (x.1.op=2) && !x.2)=false:=by
  rw [ak3];intro x ab h;simp only [f9,ai0,decide_eq_false_iff_not] at h;exact h.1 (dR x ab h.2).1
 have b1:∀ c:Nat,c=1∨c=2→(fm L arg path).any (fun x=>decide (x.1.op=2)&&(!x.2&&decide (x.1.cls.toNat=c)))=false:=by
  intro c vi;rw [ak3];intro x ab h;simp only [f9,ai0,i7] at h;have:=dR x ab h.2.1;have:=sO bM ab h.1;omega
 rw [cd,b1 1 (.inl C),b1 2 (.inr C),ah1,ah1,ah1];simp only;rw [Qz];have mK:(jM w.owner.length L arg path).any (fun s => !lh L arg (path++[s]) && !ej (path++[s]))=((et L) (bs arg path)).bn.any (fun s=>((et L) (bs arg (path++[s]))).gv && !zy (path++[s])):=
  JN gm fun s ar=>by rw [eM s ar,aF s (uf s ar)]
 rw [mK];have abP:(fm L arg path).any (fun x => !nV x&&(x.2&&decide (x.1.cls.toNat=0)))=(fm L arg path).any (fun x=>decide (x.1.op=2)&&(x.2&&decide (x.1.cls.toNat=0))):=by
  rw [af4,ag5,ag5];constructor <;>
  ·rintro ⟨x,ab,h⟩
   refine ⟨x,ab,?_⟩;unfold nV at *;by_cases ad:x.1.op=2
   ·simp only [ad,decide_true,f5,f9,i7,aj',ah1,ai0,ak7,decide_eq_false_iff_not] at h ⊢
    have:=sO bM ab ad
    first|exact h.2|(obtain ⟨a',bz⟩:=h;exact ⟨⟨by omega,by omega⟩,a',bz⟩)
   ·simp [ad] at h
 have abQ:(jM w.owner.length L arg path).any (fun s => !ej (path++[s])&&decide (jL w s=0))=false:=by
  rw [ak3];intro s ar h;have:=JQ hw bM (uf s ar);simp only [f9,i7] at h;omega
 by_cases aR:((et L) (bs arg path)).bn.any (fun s=>((et L) (bs arg (path++[s]))).gv && !zy (path++[s]))=true
 ·rw [g6 aR,JP aR]
  have:∀ z:Bool,false=(if z=true then (0,false) else ((0,false):Nat×Bool)).2:=fun z=>by cases z<;>rfl
  exact this _
 rw [d9 aR];obtain ⟨jq,n',e,hm,az⟩:=Fc (w:=w) (σ:=et L) (cn:=zy) (arg:=arg) (path:=path) (l:=((et L) (bs arg path)).bn) (m:=((et L) (bs arg path)).fS) (n:=((et L) (bs arg path)).no) w4;rw [e];simp only [ah1,abQ,abP,an0];cases bE:(fm L arg path).any (fun x=>decide (x.1.op=2)&&(x.2&&decide (x.1.cls.toNat=0))) with
 | true=>simp
 | false=>
  simp only [aj3,f5,af6,ah9];have k0:∀ k,(jM w.owner.length L arg path).any (fun s => !lh L arg (path++[s])&&decide (jL w s=k))=((et L) (bs arg path)).bn.any (fun s=>((et L) (bs arg (path++[s]))).gv&&decide (jL w s=k)):=fun k=>JN gm fun s ar=>by rw [eM s ar]
  have kV:∀ k,(jM w.owner.length L arg path).any (fun s => !ej (path++[s])&&decide (jL w s=k))=((et L) (bs arg path)).bn.any (fun s => !zy (path++[s])&&decide (jL w s=k)):=fun k=>JN gm fun s ar=>by rw [aF s (uf s ar)]
  have QB:∀ k,k<3→((et L) (bs arg path)).bn.any (fun s=>((et L) (bs arg (path++[s]))).gv&&decide (jL w s=k))=false:=fun k aA=>by
   rw [ak3];intro s ar h;have:=JQ hw bM (uf s ((gm s).2 ar));simp only [f9,i7] at h;omega
  have ab:∀ k,1≤k→¬ (k=1∨k=2)→∀ b:cb→Bool,(fm L arg path).any (fun x => !nV x&&(b x&&decide (x.1.cls.toNat=k)))=(fm L arg path).any (fun x=>decide (x.1.op=2)&&(b x&&decide (x.1.cls.toNat=k))):=fun k U ad b=>by
   rw [af4,ag5,ag5];constructor <;>
   ·rintro ⟨x,ab,h⟩
    refine ⟨x,ab,?_⟩;unfold nV at *;by_cases aj:x.1.op=2
    ·simp only [aj,decide_true,f5,f9,i7,aj',ah1,ai0,ak7,decide_eq_false_iff_not] at h ⊢
     have:=sO bM ab aj
     first|exact h.2|(obtain ⟨a',bz⟩:=h;exact ⟨⟨by omega,by omega⟩,a',bz⟩)
    ·simp [aj] at h
  refine abL hw ?_ (g6 C) ⟨?_,?_⟩ ?_ ?_
  ·intro k aA
   rw [d9 ag,hm,k0,vH aD bM];by_cases xW:k=1∨k=2
   ·rw [b1 k xW]
    congr 1;rw [ak3];intro x ab h;unfold nV at h;simp only [f9,ai0,ak7,decide_eq_false_iff_not,i7,aA2] at h;have:=sO bM ab h.1.1;omega
   ·rw [ab k aA xW (fun x => !x.2)]
  ·rw [hm,vH aD bM,b1 1 (.inl C),QB 1 ag];rfl
  ·rw [hm,vH aD bM,b1 2 (.inr C),QB 2 ag];rfl
  ·intro k aA
   rw [hm,aj0] at aA;rcases aA with aA|aA
   ·exact Qx aD bM aA
   ·obtain ⟨s,ar,aA⟩:=ag5.1 aA
    have:=JQ hw bM (uf s ((gm s).2 ar));simp only [f9,i7] at aA;omega
  ·intro k aA
   rw [az,kV,Fa aD bM,ab k ag ag (fun x=>x.2)]
omit aD in
theorem QC:∀ (k:Nat) (path:List Int),path.length≤2→oL w L arg k path=ss w (et L) arg k path
  | 0,_,_=>rfl
  | k+1,path,aD=>by
    rw [oL,ss,abJ hw aD bM,abK hw aD bM,abO hw aD bM (fun s ar=>QC k _ (xV bM ar).2.2)]
omit aD in
theorem QD:B4 w L=nN w (et L):=by
 unfold B4 nN;congr 1;funext a;exact QC hw bM 3 [] ba
end
theorem abR (w:bx) (hw:w.owner.length≤40) (L:List cb) (arg:Int) (path:List Int) (bM:nU w L) (aD:path.length≤2):aV d0 177 [kM w L arg path] (.bool (t' w.owner.length L arg path)):=by
 have an:=bG;have U:=JJ w L arg path bM ag;have ad:=Qi w hw L arg path bM aD;have eJ:=bM.on arg path;have aT:t' w.owner.length L arg path=((fm L arg path).all (fun x => !qo x)&&sK w.owner.length L arg path):=rfl;refine aV.bl ai Tryz.func177 C C fun s I=>?_
 generalize fm L arg path=M at U eJ aT;have xT:=eJ.1;rw [aT];unfold kM oM cZ bg at *;refine cB ?_;refine ae.b9 [1,9,10] C I (σ:=Nat) (fun j=>[(11,.int .i64 (j:Int))]) (fun _=>[]) (fun j=>j≤M.length∧(M.all fun x => !qo x)=(M.drop j).all fun x => !qo x) (fun j=>M.length-j) 0 ⟨g8 _,rfl⟩ (cz C) a1 ?_;rintro j ⟨aH,aq⟩ I
 try simp only at aH aq I ⊢
 refine b8 ?_;refine ae.cond C (fun aw=>?_) (fun aY=>?_);rotate_left
 ·have aY:j=M.length:=by simp at aY;omega
  rw [eG ag,ap3] at aq;rw [aq,f5];refine db ?_;exact bA I
 have aw:j<M.length:=by simpa using aw
 obtain ⟨x,ab,bP⟩:=b5 (f:=fun x:cb=>(iq x).bW) aw;have fg:=eJ.at (d6 ab);have dz:=zp x fg.1;have bP:(M.map fun x=>(iq x).bW)[j]? = some (iq x).bW:=bP;rw [ao.cp] at bP;simp only [ao.cp] at dz;rw [drop_cons ab,ak'] at aq;have i':qo x=((decide (x.1.op=2)&&(decide (x.1.cls=0)||decide (x.1.cls=2)))==x.2):=rfl;unfold ao.cells at bP dz;cases az:x.2 with
 | true=>
  rw [az] at dz i'
  repeat' (first|(with_reducible first|apply ae.seq|apply b4|apply fQ|apply fA|apply hj|apply ae.ret|apply ae.skip|apply ae.block)|refine c5 C ?_|refine ae.cJ ?_|refine aa.nil ?_|refine ae.fH C ?_|refine ae.gF C ?_|refine cD C ?_|refine aa.skip C C C ?_|refine aa.idx ai _ C C C C C C C C C C C cw C ?_|refine aa.ez ai I C C C C C C As bZ ?_|refine aa.cM ai I C C C C C C C C C As bZ (fun I=>?_)|refine aa.dK ai I C C C C C C C (fun cA I=>?_)|refine aa.eb C C C C C cw ?_|(fail_if_success refine aa.same true C ?_);(fail_if_success refine aa.same false C ?_);refine aa.hG C C (fun h=>?_) (fun h=>?_)|refine ae.cond C (fun h=>?_) (fun h=>?_))
  all_goals first
   | exact Fin.cG I C (aU.of_eq (ae7 af.bool (by rw [aq,show qo x=true by clear I aq U ad;grind];rfl)))
   | exact bp.mk (j+1) I ⟨aw,by rw [aq,show qo x=false by clear I aq U ad;grind];rfl⟩ ck a1 qn
 | false=>
  rw [az] at dz i'
  repeat' (first|(with_reducible first|apply ae.seq|apply b4|apply fQ|apply fA|apply hj|apply ae.ret|apply ae.skip|apply ae.block)|refine c5 C ?_|refine ae.cJ ?_|refine aa.nil ?_|refine ae.fH C ?_|refine ae.gF C ?_|refine cD C ?_|refine aa.skip C C C ?_|refine aa.idx ai _ C C C C C C C C C C C cw C ?_|refine aa.ez ai I C C C C C C As bZ ?_|refine aa.cM ai I C C C C C C C C C As bZ (fun I=>?_)|refine aa.dK ai I C C C C C C C (fun cA I=>?_)|refine aa.eb C C C C C cw ?_|(fail_if_success refine aa.same true C ?_);(fail_if_success refine aa.same false C ?_);refine aa.hG C C (fun h=>?_) (fun h=>?_)|refine ae.cond C (fun h=>?_) (fun h=>?_))
  all_goals first
   | exact Fin.cG I C (aU.of_eq (ae7 af.bool (by rw [aq,show qo x=true by clear I aq U ad;grind];rfl)))
   | exact bp.mk (j+1) I ⟨aw,by rw [aq,show qo x=false by clear I aq U ad;grind];rfl⟩ ck a1 qn
theorem QE:∀ (f:Nat) (n:Int) (l:List Int),n≤l7 f n l
  | 0,n,l=>ak6 _
  | f+1,n,l=>by
    rw [l7];split
    · have:=QE f (n+1) l;omega
    · exact ak6 _
def QF (b:Bool) (o:ey) (K:a8):Prop:=(∃ v,o = .ret (.cu [v,.bool b]))∧K=[]
theorem abS (w:bx) (hw:w.owner.length≤40) (L:List cb) (arg:Int) (path:List Int) (bM:nU w L) (aD:path.length≤2):bF d0 176 [kM w L arg path] [] (QF (vy w.owner.length L arg path)):=by
 have an:=bG;have U:=JJ w L arg path bM ag;have ad:=Qi w hw L arg path bM aD;have eJ:=bM.on arg path;have aT:vy w.owner.length L arg path=match pE (fm L arg path) (-1000000000,1000000000,[]) with
  | none=>false
  | some a=>decide (B3 (a.2.2.length+1) a.1 a.2.2≤a.2.1)&&sK w.owner.length L arg path:=rfl
 refine bF.bl ai Tryz.func176 C C fun s I=>?_
 generalize fm L arg path=M at U eJ aT;have xT:=eJ.1;unfold QF;generalize vy w.owner.length L arg path=res at aT ⊢;unfold kM oM cZ bg at *;refine cB ?_;refine ae.ih I 3 1 0 fun I=>?_
 refine ae.b9 [1,16,17] C I (σ:=Nat×Int×Int×List Int×bQ) (fun q=>[(18,.int .i64 (q.1:Int)),(4,.int .i64 q.2.1),(5,.int .i64 q.2.2.1),(6,.aB 1 (q.2.2.2.1.map bb) q.2.2.2.2)]) (fun q=>[(q.2.2.2.2,.row 3 1 q.2.2.2.1.length)])
  (fun q=>q.1≤M.length∧pE M (-1000000000,1000000000,[])=pE (M.drop q.1) (q.2.1,q.2.2.1,q.2.2.2.1)∧q.2.2.2.1.length≤q.1∧(-1000000001≤q.2.1∧q.2.1≤1000000001) ∧ -1000000001≤q.2.2.1∧q.2.2.1≤1000000001) (fun q=>M.length-q.1) (0,-1000000000,1000000000,[],.nil) ⟨g8 _,rfl,g9 _,⟨by decide,by decide⟩,by decide,by decide⟩
  ⟨⟨_,rfl,aO⟩,⟨_,rfl,aO⟩,⟨_,rfl,aO⟩,⟨_,rfl,aU.nil hk⟩,trivial⟩ (aI.ei _) ?_
 rintro ⟨j,en,aN,no,own⟩ ⟨aH,aq,n3,⟨lQ,eY⟩,abT,abU⟩ I
 try simp only at aH aq n3 lQ eY abT abU I ⊢
 refine b8 ?_;refine ae.cond C (fun aw=>?_) (fun aY=>?_)
 ·have aw:j<M.length:=by simpa using aw
  obtain ⟨x,ab,bP⟩:=b5 (f:=fun x:cb=>(iq x).bW) aw;have fg:=eJ.at (d6 ab);have dz:=zp x fg.1;have bP:(M.map fun x=>(iq x).bW)[j]? = some (iq x).bW:=bP;rw [ao.cp] at bP;simp only [ao.cp] at dz;rw [drop_cons ab,pE] at aq;have dn:ad5 .i64 (x.1.n-1)=x.1.n-1:=ee ag ag;unfold ao.cells at bP dz;have bY:x.1.op=2∨x.1.op=3∨x.1.op=4:=by have:=fg.1;unfold ao.c0 at this;simp at this;omega
  rcases bY with h|h|h
  ·rw [g6 h] at aq
   rw [h] at dz;cases Cj:(decide (x.1.cls>1) != x.2) with
   | true=>
    rw [Cj,g6 C] at aq;rw [aq] at aT;simp only at aT;rw [aT];refine dY ?_;refine ae.cond C (fun _=>?_) (fun h=>absurd (Cj.symm.trans h) ba);refine js ?_;exact Fin.bt I C aO .nil ⟨⟨_,rfl⟩,rfl⟩
   | false=>
    rw [Cj,d9 ba] at aq;refine dY ?_;refine ae.cond C (fun h=>absurd (Cj.symm.trans h) ba) (fun _=>?_);refine gr ?_;exact bp.mk (j+1,en,aN,no,own) I ⟨aw,aq,by simp<;>omega,⟨by show -1000000001≤en;omega,by show en≤1000000001;omega⟩,by show -1000000001≤aN;omega,by show aN≤1000000001;omega⟩ BZ B0 qn
  ·rw [d9 ag,g6 h] at aq
   rw [h] at dz;cases az:x.2 with
   | true=>
    rw [az] at dz;rw [az,g6 C] at aq;refine dY ?_;exact bp.mk (j+1,(max en x.1.n),aN,no,own) I ⟨aw,aq,by simp<;>omega,⟨by show -1000000001≤(max en x.1.n);omega,by show (max en x.1.n)≤1000000001;omega⟩,by show -1000000001≤aN;omega,by show aN≤1000000001;omega⟩ BZ B0 qn
   | false=>
    rw [az] at dz;rw [az,d9 ba] at aq;refine dY ?_;exact bp.mk (j+1,en,(min aN (x.1.n-1)),no,own) I ⟨aw,aq,by simp<;>omega,⟨by show -1000000001≤en;omega,by show en≤1000000001;omega⟩,by show -1000000001≤(min aN (x.1.n-1));omega,by show (min aN (x.1.n-1))≤1000000001;omega⟩ BZ B0 qn
  ·rw [d9 ag,d9 ag] at aq
   rw [h] at dz;cases az:x.2 with
   | true=>
    rw [az] at dz;rw [az,g6 C] at aq;refine dY ?_;refine aa.gn ai I C C C C C C C er C C C C C C C C aZ hy ki ag (fun b0 I=>?_);refine gf ?_;exact bp.mk (j+1,en,aN,(no++[x.1.n]),(.own b0)) I ⟨aw,aq,by simp<;>omega,⟨by show -1000000001≤en;omega,by show en≤1000000001;omega⟩,by show -1000000001≤aN;omega,by show aN≤1000000001;omega⟩ BZ B0 qn
   | false=>
    rw [az] at dz;rw [az,d9 ba] at aq;refine dY ?_;exact bp.mk (j+1,(max en x.1.n),(min aN x.1.n),no,own) I ⟨aw,aq,by simp<;>omega,⟨by show -1000000001≤(max en x.1.n);omega,by show (max en x.1.n)≤1000000001;omega⟩,by show -1000000001≤(min aN x.1.n);omega,by show (min aN x.1.n)≤1000000001;omega⟩ BZ B0 qn
 have aY:j=M.length:=by simp at aY;omega
 rw [eG ag,pE] at aq;rw [aq] at aT;simp only [JM] at aT;refine bD ?_;refine ae.b9 [1,5,6] C I (σ:=Int) (fun n=>[(11,.int .i64 n)]) (fun _=>[(own,.row 3 1 no.length)]) (fun n=>en≤n∧n≤1000000002∧l7 (no.length+1) en no=l7 (no.length+1) n no) (fun n=>(1000000002-n).toNat) en ⟨ak6 _,by omega,rfl⟩ (cz C) (aI.ei _) ?_;rintro n ⟨tj,zf,k1⟩ I
 try simp only at tj zf k1 I ⊢
 refine b8 ?_;refine ae.cond C (fun hle=>?_) (fun nv=>?_);rotate_left
 ·have nv:aN<n:=by simp at nv;omega
  have:=QE (no.length+1) n no;rw [H1 (by rw [k1];omega),f6] at aT;rw [aT];refine ef ?_;exact Fin.bt I C aO .nil ⟨⟨_,rfl⟩,rfl⟩
 have hle:n≤aN:=by simpa using hle
 refine jG ?_;refine ae.b9 [1,5,6,11,78,79] C I (σ:=Nat) (fun k=>[(80,.int .i64 (k:Int)),(12,.bool (!(no.take k).contains n))]) (fun _=>[(own,.row 3 1 no.length)]) (fun k=>k≤no.length) (fun k=>no.length-k) 0 (g8 _) (cz C) (aI.all _) ?_;rintro k aA I
 try simp only at aA I ⊢
 refine b8 ?_;refine ae.cond C (fun cl=>?_) (fun dd=>?_)
 ·have cl:k<no.length:=by simpa using cl
  obtain ⟨y,ax,c7⟩:=b5 (f:=bb) cl;have Fe:=Jh ax n;unfold bb at c7;cases aF:(no.take k).contains n with
  | true=>
   rw [aF,al9] at Fe;refine bD ?_;exact bp.mk (k+1) I cl (by repeat (first|exact trivial|refine ⟨⟨_,rfl,aO⟩,?_⟩|refine ⟨⟨_,rfl,aU.of_eq (by (first|rw [iN ag]|rw [Fe];rfl))⟩,?_⟩)) (aI.all _) (by show no.length-(k+1)<no.length-k;omega)
  | false=>
   rw [aF,ah1] at Fe;have e:(y != n) = !(n==y):=by
    by_cases h:y=n
    ·subst h;simp
    ·rw [beq_eq_false_iff_ne.2 (Ne.symm h)];simpa using h
   refine bD ?_;exact bp.mk (k+1) I cl (by repeat (first|exact trivial|refine ⟨⟨_,rfl,aO⟩,?_⟩|refine ⟨⟨_,rfl,aU.of_eq (by (first|rw [iN ag]|(rw [Fe,← e])))⟩,?_⟩)) (aI.all _) (by show no.length-(k+1)<no.length-k;omega)
 have dd:k=no.length:=by simp at dd;omega
 subst dd;rw [ae6];have vu:l7 (no.length+1) n no=if no.contains n then l7 no.length (n+1) no else n:=rfl
 cases aF:no.contains n with
 | true=>
  have m3:=DX (n:=n) (l:=no) (by simpa using aF);have adH:=HT n no;rw [aF,g6 C] at vu;refine bD ?_;exact bp.mk (n+1) I ⟨by omega,by omega,by rw [k1,vu];exact DY _ _ _ _ ag ag⟩ yr (aI.all _) (by show (1000000002-(n+1)).toNat<(1000000002-n).toNat;omega)
 | false=>
  rw [aF,d9 ba] at vu;rw [k1,vu,g7 hle,f5] at aT;rw [aT];refine cB ?_;exact Fin.bt I C aO .nil ⟨⟨_,rfl⟩,rfl⟩
end Go.Proofs.YtnafpeohfbglmaaGreat
