import Derived.Test.YtnafpeohfbglmaaGreatTg
set_option linter.unusedVariables false
set_option linter.unusedSimpArgs false
set_option maxRecDepth 100000
set_option maxHeartbeats 4000000
open Bool renaming and_assoc→aC0,and_eq_true→f4,and_false→ak5,and_true→aq6,eq_false_iff→af3,eq_iff_iff→af0,false_and→f6,false_eq_true→af7,false_or→ah2,not_eq_false'→aw3,not_eq_true'→ai3,not_false→aj6,not_not→ax5,not_true→aj',or_assoc→ar6,or_eq_false_iff→ak2,or_eq_true→ah5,or_false→al9,or_true→ao3,true_and→f5,true_or→am1
open Int renaming le_refl→al1,ofNat_lt→aD4,ofNat→as7,toNat_natCast→i9
open Go.IntKind renaming bits→am6,wrap→ac'
open List renaming all_cons→al8,all_eq_true→af5,all_nil→ap2,any_append→aB4,any_cons→ak7,any_eq_false→ak8,any_eq_true→af4,append_nil→d9,cons_append→ab',cons→as6,contains_append→ao0,contains_iff_mem→ah0,filter_append→at',filter_congr→aA4,filter_cons→al5,filter_eq_self→at0,filter_nil→at4,foldl_cons→ah4,foldl_nil→av8,getD_eq_getElem?_getD→d5,getElem?_eq_getElem→d8,getElem?_eq_some_iff→t7,getElem?_map→ae7,getElem?_of_mem→af',getElem_mem→aj4,length_append→f9,length_cons→i5,length_filter_le→aj8,length_map→f8,length_nil→ag0,length_range→au3,length_replicate→ag2,length_take→ae9,map_append→ae1,map_cons→ae0,map_map→at9,map_nil→ag7,mem_append→ae2,mem_cons_of_mem→i0,mem_cons_self→i6,mem_cons→ae8,mem_filter→ag3,mem_map→af8,mem_of_getElem?→d6,mem_range→aj2,mem_singleton→t6,nil_append→f0,range_succ→at2,range→ah8,replicate→H1,take_add_one→an3,take_append_drop→ah',take_length→af1
open Nat renaming add_comm→ar3,add_sub_cancel→aq1,and_le_left→av2,eq_of_testBit_eq→an',le_refl→g7,lt_of_le_of_lt→ak3,lt_of_lt_of_le→aj7,lt_or_ge→ap0,lt_succ_iff_lt_or_eq→ah7,lt_succ_self→am3,lt_trichotomy→aq8,mul_one→aj3,or_lt_two_pow→aj0,pow_le_pow_right→ah6,pow_lt_pow_right→ai6,pow_succ→av1,shiftRight_le→aq7,testBit_and→am0,testBit_lt_two_pow→al0,testBit_or→al7,testBit_two_pow_sub_one→ai1,testBit_two_pow→ak6,testBit_xor→ar7,zero_add→af6,zero_le→g9,zero_testBit→ap7
open Option renaming bind_none→ai5,bind_some→ai',getD_none→au6,getD_some→ae4,isSome_none→ap',isSome_some→at6
open Go.Sem renaming run_bind→aa'
open Go.Proofs.Tryz renaming prog→d0
namespace Go.Proofs.YtnafpeohfbglmaaGreat
theorem OY {p:Prop} (h:p:=by repeat (first|exact trivial|refine ⟨⟨_,rfl,aT⟩,?_⟩|refine ⟨⟨_,rfl,aZ.of_eq (by (first|rw [kF (by omega)]|(show _=lg (bF.test _ _ _);rw [lg,Dm,IW])))⟩,?_⟩)):p:=h
theorem OZ {p:Prop} (h:p:=by simp only [ey,eu,ei,av.cells];exact ba):p:=h
theorem xM {p:Prop} (h:p:=by simp only [ey,eu,ei];exact ba):p:=h
theorem O0 {p:Prop} (h:p:=by simp only [j6];exact ba):p:=h
theorem O1 {p:Prop} (h:p:=by have:=lN.bm;have e:(bY p).owner=fG 0 p.cm:=rfl;rw [e] at this;omega):p:=h
theorem O2 {p:Prop} (h:p:=by show aJ _ [(_,.row _ _ (out++[x]).length)] _;rw [List.length_append];exact ba):p:=h
theorem zk {p:Prop} (h:p:=by show vs.length-(j+1)<vs.length-j;omega):p:=h
theorem BZ {p:Prop} (h:p:=by show l.length-(i+1)<l.length-i;omega):p:=h
def cO (b:Nat) (cs:List ah):bb:=[(.own b,.box 3 cs)]
def ZF (b:Nat) (dT:List ah) (r:Option (List Int)) (o:eB) (K:bb):Prop:=
 match r with
 | some out=>o = .ret (.bool true)∧K=cO b (out.map bg++dT)
 | none=>o = .ret (.bool false)∧∃ cs,K=cO b cs
theorem ZG {out:List Int} {dT:List ah} {n:Nat} (h:n<out.length) (v:Int):eV (n*1) [.int .i64 v] (out.map bg++dT)=(out.set n v).map bg++dT:=by
 rw [aj3,si,List.set_append_left _ _ (by rw [f8];exact h),List.map_set];rfl
theorem IX {out:List Int} {dT:List ah} {n:Nat} (h:n<out.length):(out.map bg++dT)[n*1]? = some (.int .i64 (out.getD n 0)):=by
 rw [aj3,List.getElem?_append_left (by rw [f8];exact h),ae7,d5,d8 h];rfl
theorem IY {p:bN} {n:Int} {out:List Int} (h:pq p n out=true):0≤n∧n<(p.nodes.length:Int)∧out.getD n.toNat 0<0:=by
 unfold pq at h;simp only [f4,g6] at h;omega
theorem IZ {p:bN} {next:Bool} {n size:Int} {out:List Int} (h:pq p n out=false):∀ f,visitM p next f n size out=none
 | 0=>rfl
 | f+1=>by rw [visitM,h];rfl
theorem O3 (p:bN) (aF:gx p) (pO:p.nodes.length≤120) (next:Bool) (b:Nat) (dT:List ah) (cap:Nat):∀ (f:Nat),f≤12→∀ (n size:Int),0≤size→size+f≤15→∀ (out:List Int),out.length=p.nodes.length →
  bI d0 138 [cD p,.int .i64 n,.int .i64 size,.int .i64 ((13-f:Nat):Int),.bool next,ee b p.nodes.length cap] (cO b (out.map bg++dT)) (ZF b dT (visitM p next f n size out)):=by
 have an:=bE;intro f
 induction f with
 | zero=>
  intro _ n size k4 kZ out gd;refine bI.bl al Tryz.func138 C C fun s I=>?_
  rw [visitM];unfold cD cI cO;unfold cO at I;refine dS ?_;by_cases bo:n<0
  ·refine ae.dK 18 C (by simpa using bo) ?_
   refine et ?_;exact Fin.bC (K:=cO b _) I C aT (by simp only [cO];exact ba) ⟨rfl,_,rfl⟩
  refine ae.dh 18 C (by simpa using bo) ?_;refine er ?_;by_cases aa:n<(p.nodes.length:Int);rotate_left
  ·refine ae.dK 25 C cL ?_
   refine et ?_;exact Fin.bC (K:=cO b _) I C aT (by simp only [cO];exact ba) ⟨rfl,_,rfl⟩
  refine ae.dh 25 C cL ?_;refine er ?_;refine ae.gF al n.toNat C C C C C C C C C ag ag ?_;refine ae.lF al I C C C C C C a' C (IX ag) ?_;refine er ?_;by_cases ad:out.getD n.toNat 0≥0
  ·refine ae.dK 32 C pJ ?_
   refine et ?_;exact Fin.bC (K:=cO b _) I C aT (by simp only [cO];exact ba) ⟨rfl,_,rfl⟩
  refine ae.dh 32 C pJ ?_;refine et ?_;exact Fin.bC (K:=cO b _) I C aT (by simp only [cO];exact ba) ⟨rfl,_,rfl⟩
 | succ f aW=>
 intro aX n size k4 kZ out gd;refine bI.bl al Tryz.func138 C C fun s I=>?_
 unfold cD cI cO;unfold cO at I;refine dS ?_;by_cases bo:n<0
 ·refine ae.dK 18 C (by simpa using bo) ?_
  rw [IZ (by rw [af3];intro h;have:=IY h;omega)];refine et ?_;exact Fin.bC (K:=cO b _) I C aT (by simp only [cO];exact ba) ⟨rfl,_,rfl⟩
 refine ae.dh 18 C (by simpa using bo) ?_;refine er ?_;by_cases aa:n<(p.nodes.length:Int);rotate_left
 ·refine ae.dK 25 C cL ?_
  rw [IZ (by rw [af3];intro h;have:=IY h;omega)];refine et ?_;exact Fin.bC (K:=cO b _) I C aT (by simp only [cO];exact ba) ⟨rfl,_,rfl⟩
 refine ae.dh 25 C cL ?_;refine er ?_;refine ae.gF al n.toNat C C C C C C C C C ag ag ?_;refine ae.lF al I C C C C C C a' C (IX ag) ?_;refine er ?_;by_cases ad:out.getD n.toNat 0≥0
 ·refine ae.dK 32 C pJ ?_
  rw [IZ (by rw [af3];intro h;have:=IY h;omega)];refine et ?_;exact Fin.bC (K:=cO b _) I C aT (by simp only [cO];exact ba) ⟨rfl,_,rfl⟩
 refine ae.dh 32 C pJ ?_;have gA:pq p n out=true:=by
  unfold pq;simp only [f4,g6];omega
 rw [visitM,f7 gA];obtain ⟨q,rfl⟩:∃ q:Nat,n=q:=⟨n.toNat,by omega⟩;rw [i9];obtain ⟨x,ab,ch⟩:=b7 (f:=jh) (l:=p.nodes) (j:=q) ag;have H6:p.nodes.getD q default=x:=by rw [d5,ab];rfl
 rw [H6,ZA];have sG:=aF.kids x (d6 ab);refine gj ?_;refine af.cond C (fun h=>by simp at h;omega) (fun _=>?_);refine eh ?_;refine ae.gF al q C C C C C C C C C C ag ?_;refine ae.mK al I ((out.set q size).map bg++dT) C C C C C C C C C a' (by rw [f9,f8];show q*1+1≤_;omega) (ZG ag size) (fun I=>?_);have jf:(out.set q size).length=p.nodes.length:=by rw [List.length_set];exact gd
 generalize out.set q size=zl at I jf ⊢;have aj:=ZE p x;have a8:=ZC p aF x size;unfold cD cI jh k7 bj at aj a8;unfold jh k7 bj at ch;refine ft ?_;by_cases g1:(x.kids.length:Int)=ug p x;rotate_left
 ·refine aL.split 52 C (fun _=>?_) (fun h=>absurd h (by simpa using g1))
  rw [i8 g1,f6,d7 bc];refine hD ?_;exact Fin.bC (K:=cO b _) I C aT (by simp only [cO];exact ba) ⟨rfl,_,rfl⟩
 refine aL.split 52 C (fun h=>absurd g1 hx) (fun _=>?_);rw [g8 g1,f5];cases g2:nm p x size with
 | false=>
  rw [g2] at a8;rw [f6,d7 bc];refine cl ?_;exact Fin.bC (K:=cO b _) I C aT (by simp only [cO];exact ba) ⟨rfl,_,rfl⟩
 | true=>
 rw [g2] at a8;rw [f5];refine c5 ?_;cases next with
 | true=>
  rw [ao3];by_cases xN:x.op=18
  ·refine aL.split 63 C (fun _=>?_) (fun h=>absurd xN hx)
   rw [f7 C];refine cl ?_;refine af.ck [1,2,3,4,5,6,13] C I (σ:=Nat×List Int) (fun q=>[(14,.int .i64 (q.1:Int))]) (fun q=>cO b (q.2.map bg++dT)) (fun q=>q.1≤x.kids.length∧q.2.length=p.nodes.length∧lH (visitM p true f) (decide (x.op=9)) size 0 x.kids zl=lH (visitM p true f) (decide (x.op=9)) size q.1 (x.kids.drop q.1) q.2) (fun q=>x.kids.length-q.1) (0,zl) ⟨g9 _,jf,rfl⟩ (cK C) (by simp only [cO];exact ba) ?_;rintro ⟨j,bT⟩ ⟨aI,nR,aw⟩ I
   try simp only at aI nR aw I ⊢
   unfold cO at I ⊢;refine cf ?_;refine af.cond C (fun az=>?_) (fun a7=>?_);rotate_left
   ·have a7:j=x.kids.length:=by simp at a7;omega
    rw [eE ag,lH] at aw;rw [aw];refine ew ?_;exact Fin.bC (K:=cO b _) I C aT (by simp only [cO];exact ba) ⟨rfl,rfl⟩
   have az:j<x.kids.length:=by simpa using az
   obtain ⟨k,aA,eF⟩:=b7 (f:=bg) az;rw [drop_cons aA,lH] at aw;unfold bg at eF;have c0:=fun s aa ad=>aW ag k s aa ad bT nR
   have ay:((13-f:Nat):Int)=ac' .i64 (((13-(f+1):Nat):Int)+1):=by rw [ev ag ag];omega
   rw [ay] at c0;unfold cD cI cO at c0;refine bK ?_;by_cases kn:x.op=9
   ·refine ae.dK 79 C (by simpa using kn) ?_
    refine gj ?_;refine af.cond C (fun aa=>?_) (fun aa=>?_)
    ·have aa:j=1:=by simp at aa;omega
     rw [show (decide (x.op=9)&&j==1)=true by simp [kn,aa],f7 C] at aw;have c0:=c0 (size+1) ag ag;have B0:size+1=ac' .i64 (size+1):=by rw [ev ag ag]
     rw [B0] at c0 aw;refine pe ?_;cases ar:visitM p true f k (ac' .i64 (size+1)) bT with
     | none=>
      rw [ar] at c0;rw [ar,ai5] at aw;rw [aw];skip;refine aL.kH rfl rfl rfl rfl rfl rfl c0 I (aJ.all _) ?_ (fun _ _ ⟨h,_⟩ _=>by cases h);rintro _ _ ⟨⟨⟩,cs,rfl⟩ I;rw [d9] at I ⊢;unfold cO at I ⊢;refine hD ?_;exact Fin.bC (K:=cO b _) I C aT (by simp only [cO];exact ba) ⟨rfl,_,rfl⟩
     | some e5=>
      have pY:=rO ag ar;rw [ar] at c0;rw [ar,ai'] at aw;skip;refine aL.kH rfl rfl rfl rfl rfl rfl c0 I (aJ.all _) ?_ (fun _ _ ⟨h,_⟩ _=>by cases h);rintro _ _ ⟨⟨⟩,rfl⟩ I;rw [d9] at I ⊢;unfold cO at I ⊢;refine ki ?_;exact bD.mk (j+1,e5) I ⟨az,by show e5.length=_;omega,aw⟩ cA (by simp only [cO];exact ba) qm
    ·have aa:j≠1:=by simp at aa;omega
     rw [show (decide (x.op=9)&&j==1)=false by simp [aa],d7 bc] at aw;have c0:=c0 size ag ag;refine pe ?_;cases ar:visitM p true f k size bT with
     | none=>
      rw [ar] at c0;rw [ar,ai5] at aw;rw [aw];skip;refine aL.kH rfl rfl rfl rfl rfl rfl c0 I (aJ.all _) ?_ (fun _ _ ⟨h,_⟩ _=>by cases h);rintro _ _ ⟨⟨⟩,cs,rfl⟩ I;rw [d9] at I ⊢;unfold cO at I ⊢;refine hD ?_;exact Fin.bC (K:=cO b _) I C aT (by simp only [cO];exact ba) ⟨rfl,_,rfl⟩
     | some e5=>
      have pY:=rO ag ar;rw [ar] at c0;rw [ar,ai'] at aw;skip;refine aL.kH rfl rfl rfl rfl rfl rfl c0 I (aJ.all _) ?_ (fun _ _ ⟨h,_⟩ _=>by cases h);rintro _ _ ⟨⟨⟩,rfl⟩ I;rw [d9] at I ⊢;unfold cO at I ⊢;refine ki ?_;exact bD.mk (j+1,e5) I ⟨az,by show e5.length=_;omega,aw⟩ cA (by simp only [cO];exact ba) qm
   ·refine ae.dh 79 C (by simpa using kn) ?_
    rw [show (decide (x.op=9)&&j==1)=false by simp [kn],d7 bc] at aw;have c0:=c0 size ag ag;refine pe ?_;cases ar:visitM p true f k size bT with
    | none=>
     rw [ar] at c0;rw [ar,ai5] at aw;rw [aw];skip;refine aL.kH rfl rfl rfl rfl rfl rfl c0 I (aJ.all _) ?_ (fun _ _ ⟨h,_⟩ _=>by cases h);rintro _ _ ⟨⟨⟩,cs,rfl⟩ I;rw [d9] at I ⊢;unfold cO at I ⊢;refine hD ?_;exact Fin.bC (K:=cO b _) I C aT (by simp only [cO];exact ba) ⟨rfl,_,rfl⟩
    | some e5=>
     have pY:=rO ag ar;rw [ar] at c0;rw [ar,ai'] at aw;skip;refine aL.kH rfl rfl rfl rfl rfl rfl c0 I (aJ.all _) ?_ (fun _ _ ⟨h,_⟩ _=>by cases h);rintro _ _ ⟨⟨⟩,rfl⟩ I;rw [d9] at I ⊢;unfold cO at I ⊢;refine ki ?_;exact bD.mk (j+1,e5) I ⟨az,by show e5.length=_;omega,aw⟩ cA (by simp only [cO];exact ba) qm
  ·refine aL.split 63 C (fun h=>absurd hx xN) (fun _=>?_)
   rw [f7 C];refine cl ?_;refine af.ck [1,2,3,4,5,6,13] C I (σ:=Nat×List Int) (fun q=>[(14,.int .i64 (q.1:Int))]) (fun q=>cO b (q.2.map bg++dT)) (fun q=>q.1≤x.kids.length∧q.2.length=p.nodes.length∧lH (visitM p true f) (decide (x.op=9)) size 0 x.kids zl=lH (visitM p true f) (decide (x.op=9)) size q.1 (x.kids.drop q.1) q.2) (fun q=>x.kids.length-q.1) (0,zl) ⟨g9 _,jf,rfl⟩ (cK C) (by simp only [cO];exact ba) ?_;rintro ⟨j,bT⟩ ⟨aI,nR,aw⟩ I
   try simp only at aI nR aw I ⊢
   unfold cO at I ⊢;refine cf ?_;refine af.cond C (fun az=>?_) (fun a7=>?_);rotate_left
   ·have a7:j=x.kids.length:=by simp at a7;omega
    rw [eE ag,lH] at aw;rw [aw];refine ew ?_;exact Fin.bC (K:=cO b _) I C aT (by simp only [cO];exact ba) ⟨rfl,rfl⟩
   have az:j<x.kids.length:=by simpa using az
   obtain ⟨k,aA,eF⟩:=b7 (f:=bg) az;rw [drop_cons aA,lH] at aw;unfold bg at eF;have c0:=fun s aa ad=>aW ag k s aa ad bT nR
   have ay:((13-f:Nat):Int)=ac' .i64 (((13-(f+1):Nat):Int)+1):=by rw [ev ag ag];omega
   rw [ay] at c0;unfold cD cI cO at c0;refine bK ?_;by_cases kn:x.op=9
   ·refine ae.dK 79 C (by simpa using kn) ?_
    refine gj ?_;refine af.cond C (fun aa=>?_) (fun aa=>?_)
    ·have aa:j=1:=by simp at aa;omega
     rw [show (decide (x.op=9)&&j==1)=true by simp [kn,aa],f7 C] at aw;have c0:=c0 (size+1) ag ag;have B0:size+1=ac' .i64 (size+1):=by rw [ev ag ag]
     rw [B0] at c0 aw;refine pe ?_;cases ar:visitM p true f k (ac' .i64 (size+1)) bT with
     | none=>
      rw [ar] at c0;rw [ar,ai5] at aw;rw [aw];skip;refine aL.kH rfl rfl rfl rfl rfl rfl c0 I (aJ.all _) ?_ (fun _ _ ⟨h,_⟩ _=>by cases h);rintro _ _ ⟨⟨⟩,cs,rfl⟩ I;rw [d9] at I ⊢;unfold cO at I ⊢;refine hD ?_;exact Fin.bC (K:=cO b _) I C aT (by simp only [cO];exact ba) ⟨rfl,_,rfl⟩
     | some e5=>
      have pY:=rO ag ar;rw [ar] at c0;rw [ar,ai'] at aw;skip;refine aL.kH rfl rfl rfl rfl rfl rfl c0 I (aJ.all _) ?_ (fun _ _ ⟨h,_⟩ _=>by cases h);rintro _ _ ⟨⟨⟩,rfl⟩ I;rw [d9] at I ⊢;unfold cO at I ⊢;refine ki ?_;exact bD.mk (j+1,e5) I ⟨az,by show e5.length=_;omega,aw⟩ cA (by simp only [cO];exact ba) qm
    ·have aa:j≠1:=by simp at aa;omega
     rw [show (decide (x.op=9)&&j==1)=false by simp [aa],d7 bc] at aw;have c0:=c0 size ag ag;refine pe ?_;cases ar:visitM p true f k size bT with
     | none=>
      rw [ar] at c0;rw [ar,ai5] at aw;rw [aw];skip;refine aL.kH rfl rfl rfl rfl rfl rfl c0 I (aJ.all _) ?_ (fun _ _ ⟨h,_⟩ _=>by cases h);rintro _ _ ⟨⟨⟩,cs,rfl⟩ I;rw [d9] at I ⊢;unfold cO at I ⊢;refine hD ?_;exact Fin.bC (K:=cO b _) I C aT (by simp only [cO];exact ba) ⟨rfl,_,rfl⟩
     | some e5=>
      have pY:=rO ag ar;rw [ar] at c0;rw [ar,ai'] at aw;skip;refine aL.kH rfl rfl rfl rfl rfl rfl c0 I (aJ.all _) ?_ (fun _ _ ⟨h,_⟩ _=>by cases h);rintro _ _ ⟨⟨⟩,rfl⟩ I;rw [d9] at I ⊢;unfold cO at I ⊢;refine ki ?_;exact bD.mk (j+1,e5) I ⟨az,by show e5.length=_;omega,aw⟩ cA (by simp only [cO];exact ba) qm
   ·refine ae.dh 79 C (by simpa using kn) ?_
    rw [show (decide (x.op=9)&&j==1)=false by simp [kn],d7 bc] at aw;have c0:=c0 size ag ag;refine pe ?_;cases ar:visitM p true f k size bT with
    | none=>
     rw [ar] at c0;rw [ar,ai5] at aw;rw [aw];skip;refine aL.kH rfl rfl rfl rfl rfl rfl c0 I (aJ.all _) ?_ (fun _ _ ⟨h,_⟩ _=>by cases h);rintro _ _ ⟨⟨⟩,cs,rfl⟩ I;rw [d9] at I ⊢;unfold cO at I ⊢;refine hD ?_;exact Fin.bC (K:=cO b _) I C aT (by simp only [cO];exact ba) ⟨rfl,_,rfl⟩
    | some e5=>
     have pY:=rO ag ar;rw [ar] at c0;rw [ar,ai'] at aw;skip;refine aL.kH rfl rfl rfl rfl rfl rfl c0 I (aJ.all _) ?_ (fun _ _ ⟨h,_⟩ _=>by cases h);rintro _ _ ⟨⟨⟩,rfl⟩ I;rw [d9] at I ⊢;unfold cO at I ⊢;refine ki ?_;exact bD.mk (j+1,e5) I ⟨az,by show e5.length=_;omega,aw⟩ cA (by simp only [cO];exact ba) qm
 | false=>
  by_cases xN:x.op=18
  ·rw [show (decide (x.op≠18)||false)=false by simp [xN],d7 bc]
   refine aL.split 63 C (fun _=>?_) (fun h=>absurd xN hx);refine hD ?_;exact Fin.bC (K:=cO b _) I C aT (by simp only [cO];exact ba) ⟨rfl,_,rfl⟩
  ·rw [show (decide (x.op≠18)||false)=true by simp [xN]]
   refine aL.split 63 C (fun h=>absurd hx xN) (fun _=>?_);rw [f7 C];refine cl ?_;refine af.ck [1,2,3,4,5,6,13] C I (σ:=Nat×List Int) (fun q=>[(14,.int .i64 (q.1:Int))]) (fun q=>cO b (q.2.map bg++dT)) (fun q=>q.1≤x.kids.length∧q.2.length=p.nodes.length∧lH (visitM p false f) (decide (x.op=9)) size 0 x.kids zl=lH (visitM p false f) (decide (x.op=9)) size q.1 (x.kids.drop q.1) q.2) (fun q=>x.kids.length-q.1) (0,zl) ⟨g9 _,jf,rfl⟩ (cK C) (by simp only [cO];exact ba) ?_;rintro ⟨j,bT⟩ ⟨aI,nR,aw⟩ I
   try simp only at aI nR aw I ⊢
   unfold cO at I ⊢;refine cf ?_;refine af.cond C (fun az=>?_) (fun a7=>?_);rotate_left
   ·have a7:j=x.kids.length:=by simp at a7;omega
    rw [eE ag,lH] at aw;rw [aw];refine ew ?_;exact Fin.bC (K:=cO b _) I C aT (by simp only [cO];exact ba) ⟨rfl,rfl⟩
   have az:j<x.kids.length:=by simpa using az
   obtain ⟨k,aA,eF⟩:=b7 (f:=bg) az;rw [drop_cons aA,lH] at aw;unfold bg at eF;have c0:=fun s aa ad=>aW ag k s aa ad bT nR
   have ay:((13-f:Nat):Int)=ac' .i64 (((13-(f+1):Nat):Int)+1):=by rw [ev ag ag];omega
   rw [ay] at c0;unfold cD cI cO at c0;refine bK ?_;by_cases kn:x.op=9
   ·refine ae.dK 79 C (by simpa using kn) ?_
    refine gj ?_;refine af.cond C (fun aa=>?_) (fun aa=>?_)
    ·have aa:j=1:=by simp at aa;omega
     rw [show (decide (x.op=9)&&j==1)=true by simp [kn,aa],f7 C] at aw;have c0:=c0 (size+1) ag ag;have B0:size+1=ac' .i64 (size+1):=by rw [ev ag ag]
     rw [B0] at c0 aw;refine pe ?_;cases ar:visitM p false f k (ac' .i64 (size+1)) bT with
     | none=>
      rw [ar] at c0;rw [ar,ai5] at aw;rw [aw];skip;refine aL.kH rfl rfl rfl rfl rfl rfl c0 I (aJ.all _) ?_ (fun _ _ ⟨h,_⟩ _=>by cases h);rintro _ _ ⟨⟨⟩,cs,rfl⟩ I;rw [d9] at I ⊢;unfold cO at I ⊢;refine hD ?_;exact Fin.bC (K:=cO b _) I C aT (by simp only [cO];exact ba) ⟨rfl,_,rfl⟩
     | some e5=>
      have pY:=rO ag ar;rw [ar] at c0;rw [ar,ai'] at aw;skip;refine aL.kH rfl rfl rfl rfl rfl rfl c0 I (aJ.all _) ?_ (fun _ _ ⟨h,_⟩ _=>by cases h);rintro _ _ ⟨⟨⟩,rfl⟩ I;rw [d9] at I ⊢;unfold cO at I ⊢;refine ki ?_;exact bD.mk (j+1,e5) I ⟨az,by show e5.length=_;omega,aw⟩ cA (by simp only [cO];exact ba) qm
    ·have aa:j≠1:=by simp at aa;omega
     rw [show (decide (x.op=9)&&j==1)=false by simp [aa],d7 bc] at aw;have c0:=c0 size ag ag;refine pe ?_;cases ar:visitM p false f k size bT with
     | none=>
      rw [ar] at c0;rw [ar,ai5] at aw;rw [aw];skip;refine aL.kH rfl rfl rfl rfl rfl rfl c0 I (aJ.all _) ?_ (fun _ _ ⟨h,_⟩ _=>by cases h);rintro _ _ ⟨⟨⟩,cs,rfl⟩ I;rw [d9] at I ⊢;unfold cO at I ⊢;refine hD ?_;exact Fin.bC (K:=cO b _) I C aT (by simp only [cO];exact ba) ⟨rfl,_,rfl⟩
     | some e5=>
      have pY:=rO ag ar;rw [ar] at c0;rw [ar,ai'] at aw;skip;refine aL.kH rfl rfl rfl rfl rfl rfl c0 I (aJ.all _) ?_ (fun _ _ ⟨h,_⟩ _=>by cases h);rintro _ _ ⟨⟨⟩,rfl⟩ I;rw [d9] at I ⊢;unfold cO at I ⊢;refine ki ?_;exact bD.mk (j+1,e5) I ⟨az,by show e5.length=_;omega,aw⟩ cA (by simp only [cO];exact ba) qm
   ·refine ae.dh 79 C (by simpa using kn) ?_
    rw [show (decide (x.op=9)&&j==1)=false by simp [kn],d7 bc] at aw;have c0:=c0 size ag ag;refine pe ?_;cases ar:visitM p false f k size bT with
    | none=>
     rw [ar] at c0;rw [ar,ai5] at aw;rw [aw];skip;refine aL.kH rfl rfl rfl rfl rfl rfl c0 I (aJ.all _) ?_ (fun _ _ ⟨h,_⟩ _=>by cases h);rintro _ _ ⟨⟨⟩,cs,rfl⟩ I;rw [d9] at I ⊢;unfold cO at I ⊢;refine hD ?_;exact Fin.bC (K:=cO b _) I C aT (by simp only [cO];exact ba) ⟨rfl,_,rfl⟩
    | some e5=>
     have pY:=rO ag ar;rw [ar] at c0;rw [ar,ai'] at aw;skip;refine aL.kH rfl rfl rfl rfl rfl rfl c0 I (aJ.all _) ?_ (fun _ _ ⟨h,_⟩ _=>by cases h);rintro _ _ ⟨⟨⟩,rfl⟩ I;rw [d9] at I ⊢;unfold cO at I ⊢;refine ki ?_;exact bD.mk (j+1,e5) I ⟨az,by show e5.length=_;omega,aw⟩ cA (by simp only [cO];exact ba) qm
theorem ZH {g:List (List Int)} {i:Nat} {l:List Int} (aC:g[i]? = some l) (h:3<l.length):mI g=false:=by
 rw [af3];intro aq;have:=(AF aq).par i l aC;omega
theorem ZI (p:bN) (aF:gx p):aV d0 136 [cD p] (.bool (po p)):=by
 have an:=bE;have gi:po p=(decide (p.cm.length≤10)&&((lG 0 p.cm==some p.bm)&&(mI (hh p)&&rb p 0 p.cm))):=rfl;have b9:=aF.cls;have j2:(hh p).length=p.cm.length:=f8 _;have dj:=OU p aF;have O4:=Us (hh p) ag;have gQ:=fun h=>EC p aF h
 refine aV.bl al Tryz.func136 C C fun s I=>?_
 unfold cD cI eI eX dd bj at *;refine cf ?_;refine af.cond C (fun h=>?_) (fun h=>?_)
 ·rw [show decide (p.cm.length≤10)=false by simp at h ⊢;omega,f6] at gi
  refine gE ?_;exact Fin.cE I C (aZ.of_eq (ae6 ah.bool gi.symm))
 have O5:p.cm.length≤10:=by simp at h;omega
 rw [g8 O5,f5] at gi;refine jL ?_;refine af.ck [1] C I (σ:=Nat×Int) (fun q=>[(4,.int .i64 (q.1:Int)),(3,.int .i64 q.2)]) (fun _=>[]) (fun q=>q.1≤p.cm.length∧lG 0 p.cm=lG q.2 (p.cm.drop q.1)∧0≤q.2∧q.2≤4*q.1) (fun q=>p.cm.length-q.1) (0,0) ⟨g9 _,rfl,al1 _,by omega⟩ (cK C) ba ?_;rintro ⟨j,n⟩ ⟨aI,aw,yy,HW⟩ I
 try simp only at aI aw yy HW I ⊢
 refine cf ?_;refine af.cond C (fun az=>?_) (fun a7=>?_)
 ·have az:j<p.cm.length:=by simpa using az
  obtain ⟨c,aD,nj⟩:=b7 (f:=jg) az;obtain ⟨b6,bW,eN⟩:=aF.each c (d6 aD);rw [drop_cons aD,lG] at aw;unfold jg nk bj at nj;refine eh ?_;by_cases a8:c.bm.length≤4;rotate_left
  ·rw [d7 a8] at aw
   rw [aw,show (none==some p.bm)=false from rfl,f6] at gi;refine ae.dK 36 C cL ?_;refine fe ?_;exact Fin.cE I C (aZ.of_eq (ae6 ah.bool gi.symm))
  rw [f7 a8] at aw;refine ae.dh 36 C cL ?_;refine eh ?_;refine af.cond C (fun aj=>?_) (fun aj=>?_)
  ·have aj:3<c.parents.length:=by simp at aj;omega
   rw [ZH (g:=hh p) (i:=j) (l:=c.parents) (by unfold hh;rw [ae7,aD];rfl) aj,f6,ak5] at gi;refine jK ?_;exact Fin.cE I C (aZ.of_eq (ae6 ah.bool gi.symm))
  refine jL ?_;refine af.ck [1,4,5] C I (σ:=Nat) (fun k=>[(6,.int .i64 (k:Int)),(3,.int .i64 (n+k))]) (fun _=>[]) (fun k=>k≤c.bm.length∧nX n c.bm=nX (n+k) (c.bm.drop k)) (fun k=>c.bm.length-k) 0 ⟨g9 _,by rw [List.drop_zero];congr 1;omega⟩ (by repeat (first|exact trivial|refine ⟨⟨_,rfl,aT⟩,?_⟩|refine ⟨⟨_,rfl,aZ.of_eq (by (congr 1;omega))⟩,?_⟩)) ba ?_;rintro k ⟨aA,bk⟩ I
  try simp only at aA bk I ⊢
  refine cf ?_;refine af.cond C (fun cT=>?_) (fun ef=>?_)
  ·have cT:k<c.bm.length:=by simpa using cT
   obtain ⟨y,ax,dc⟩:=b7 (f:=bg) cT;rw [drop_cons ax,nX] at bk;unfold bg at dc;refine eh ?_;refine af.cond C (fun cP=>?_) (fun he=>?_)
   ·have cP:y≠n+k:=by simpa using cP
    rw [d7 cP] at bk;rw [aw,bk,ai5,show (none==some p.bm)=false from rfl,f6] at gi;refine jK ?_;exact Fin.cE I C (aZ.of_eq (ae6 ah.bool gi.symm))
   have he:y=n+k:=by simpa using he
   rw [f7 he] at bk;refine fV ?_;exact bD.mk (k+1) I ⟨cT,by rw [bk];congr 1;push_cast;omega⟩ (by repeat (first|exact trivial|refine ⟨⟨_,rfl,aT⟩,?_⟩|refine ⟨⟨_,rfl,aZ.of_eq (by (first|rw [kF ag]|(rw [ev ag ag];congr 1;push_cast;omega)))⟩,?_⟩)) ba DP
  ·have ef:k=c.bm.length:=by simp at ef;omega
   rw [eE ag,nX] at bk;rw [bk,ai'] at aw;refine bK ?_;exact bD.mk (j+1,n+k) I ⟨az,aw,by show 0≤n+(k:Int);omega,by show n+(k:Int)≤4*((j+1:Nat):Int);omega⟩ cA ba yP
 have a7:j=p.cm.length:=by simp at a7;omega
 rw [eE ag,lG] at aw;rw [aw] at gi;have gd:=(IN (i:=0) aw).1;have gQ:=gQ ag;refine c5 ?_;by_cases au:n=p.bm;rotate_left
 ·rw [show (some n==some p.bm)=false by simpa using au,f6] at gi
  refine ae.dK 66 C (by simpa using au) ?_;refine et ?_;exact Fin.cE I C (aZ.of_eq (ae6 ah.bool gi.symm))
 refine ae.dh 66 C (by simpa using au) ?_;rw [show (some n==some p.bm)=true by simpa using au,f5] at gi;cases k1:mI (hh p) with
 | false=>
  rw [k1,f6] at gi;rw [k1] at O4;refine cl ?_;exact Fin.cE I C (aZ.of_eq (ae6 ah.bool gi.symm))
 | true=>
 rw [k1,f5] at gi;rw [k1] at O4;have mA:=AF k1;have lN:=L9 O5 aw k1;subst au;have O6:=fun c aD=>UB (hh p) mA c aD
 have O7:=fun c bt o aa ad=>IU (bY p) lN c bt o aa ad
 have ZJ:=fun i h s=>Zh aw lN (i:=i) h s
 have hIn:=fun n=>OT n
 have pt:(bY p).ps.length=p.cm.length:=j2;have m':((bY p).owner.length:Int)=p.bm:=by
  have:(bY p).owner=fG 0 p.cm:=rfl;rw [this];omega
 unfold eI eX dd bj at O7;unfold dd bj at O6;refine ft ?_;refine af.ck [1,3,7,8] C I (σ:=Nat) (fun j=>[(9,.int .i64 (j:Int))]) (fun _=>[]) (fun j=>j≤p.cm.length∧rb p 0 p.cm=rb p j (p.cm.drop j)) (fun j=>p.cm.length-j) 0 ⟨g9 _,rfl⟩ (cK C) ba ?_;rintro i ⟨aS,c9⟩ I
 try simp only at aS c9 I ⊢
 refine cf ?_;refine af.cond C (fun az=>?_) (fun a7=>?_);rotate_left
 ·have a7:i=p.cm.length:=by simp at a7;omega
  rw [eE ag,rb] at c9;rw [c9] at gi;refine ew ?_;exact Fin.cE I C (aZ.of_eq (ae6 ah.bool gi.symm))
 have az:i<p.cm.length:=by simpa using az
 obtain ⟨c,aD,nj⟩:=b7 (f:=jg) az;obtain ⟨b6,bW,eN⟩:=aF.each c (d6 aD);rw [drop_cons aD,rb,G5] at c9;have y7:=O6 (3+i) ag;have ic:(((3+i:Nat):Int))=ac' .i64 ((i:Int)+3):=by rw [ev ag ag];omega
 have hle:yI p (i+3)=(fE (hh p) (2+(hh p).length)).getD (3+i) []:=by unfold yI;rw [ar3 3 i]
 rw [← hle,ic] at y7;unfold jg nk bj at nj;cases he:(yI p (i+3)).isEmpty with
 | true=>
  rw [he] at y7;rw [he,aj',f6,f6] at c9;rw [c9] at gi;refine cl ?_;exact Fin.cE I C (aZ.of_eq (ae6 ah.bool gi.symm))
 | false=>
 rw [he] at y7;rw [he,aj6,f5] at c9;refine cl ?_;refine af.ck [1,3,7,8,9,10,13] C I (σ:=Nat) (fun k=>[(14,.int .i64 (k:Int))]) (fun _=>[]) (fun k=>k≤c.inits.length∧ra (pn p i) [] c.inits=ra (pn p i) ((c.inits.take k).map iT.slot) (c.inits.drop k)) (fun k=>c.inits.length-k) 0 ⟨g9 _,rfl⟩ (cK C) ba ?_;rintro k ⟨aA,bk⟩ I
 try simp only at aA bk I ⊢
 refine cf ?_;refine af.cond C (fun cT=>?_) (fun ef=>?_);rotate_left
 ·have ef:k=c.inits.length:=by simp at ef;omega
  rw [eE ag,ra] at bk;rw [bk,f5] at c9;refine bK ?_;exact bD.mk (i+1) I ⟨az,c9⟩ cA ba (by show p.cm.length-(i+1)<p.cm.length-i;omega)
 have cT:k<c.inits.length:=by simpa using cT
 obtain ⟨x,ab,ch⟩:=b7 (f:=wX) cT;rw [drop_cons ab,ra,ZJ i az] at bk;unfold wX at ch;refine pd ?_;by_cases g1:x.slot<0
 ·refine aL.split 108 C (fun _=>?_) (fun h=>absurd h (by simpa using g1))
  rw [show decide (x.slot≥0)=false by simp;omega,f6,f6] at bk;rw [bk] at c9;rw [f6] at c9;rw [c9] at gi;refine hD ?_;exact Fin.cE I C (aZ.of_eq (ae6 ah.bool gi.symm))
 refine aL.split 108 C (fun h=>absurd hx g1) (fun _=>?_);rw [show decide (x.slot≥0)=true by simp;omega,f5] at bk;refine c5 ?_;by_cases g2:x.slot<p.bm;rotate_left
 ·refine aL.split 117 C (fun _=>?_) (fun h=>absurd h cL)
  rw [show decide (x.slot<p.bm)=false by simp;omega,f6,f6] at bk;rw [bk] at c9;rw [f6] at c9;rw [c9] at gi;refine hD ?_;exact Fin.cE I C (aZ.of_eq (ae6 ah.bool gi.symm))
 refine aL.split 117 C (fun h=>absurd h cL) (fun _=>?_);rw [g8 g2,f5] at bk;obtain ⟨bt,db⟩:∃ bt:Nat,x.slot=bt:=⟨x.slot.toNat,by omega⟩;obtain ⟨o,ai⟩:∃ o,(bY p).owner[bt]? = some o:=⟨_,d8 ag⟩;have mw:=lN.own o (d6 ai);obtain ⟨I0,rfl⟩:∃ q:Nat,o=q:=⟨o.toNat,by omega⟩;have ua:=O7 (3+i) bt I0 ag ai;rw [show (bY p).owner.getD x.slot.toNat 0=(I0:Int) by rw [db,i9,d5,ai];rfl,i9] at bk;rw [ic,← db] at ua;cases g3:((dM (bY p).ps).getD (3+i) 0).testBit I0 with
 | false=>
  rw [g3,f6] at bk;rw [g3] at ua;refine cl ?_;rw [bk] at c9;rw [f6] at c9;rw [c9] at gi;skip;exact Fin.cE I C (aZ.of_eq (ae6 ah.bool gi.symm))
 | true=>
 rw [g3,f5] at bk;rw [g3] at ua;have fo:=hIn x.n;cases g4:j3 x.n with
 | false=>
  rw [g4,f6,ak5] at bk;rw [g4] at fo;refine cl ?_;rw [bk] at c9;rw [f6] at c9;rw [c9] at gi;skip;exact Fin.cE I C (aZ.of_eq (ae6 ah.bool gi.symm))
 | true=>
 rw [g4,f5] at bk;rw [g4] at fo;refine cl ?_;refine af.ck [1,3,7,8,9,10,13,14] C I (σ:=Nat) (fun j=>[(15,.int .i64 (j:Int))]) (fun _=>[]) (fun j=>j≤k∧((c.inits.take j).map iT.slot).contains x.slot=false) (fun j=>k-j) 0 ⟨g9 _,by simp⟩ (cK C) ba ?_;rintro j ⟨aI,b8⟩ I
 try simp only at aI b8 I ⊢
 refine cf ?_;refine af.cond C (fun lE=>?_) (fun l9=>?_);rotate_left
 ·have l9:j=k:=by simp at l9;omega
  subst l9;rw [b8,aj6,f5] at bk;have hL:(c.inits.take (j+1)).map iT.slot=(c.inits.take j).map iT.slot++[x.slot]:=by rw [jy ab,ae1];rfl
  rw [← hL] at bk;refine bK ?_;exact bD.mk (j+1) I ⟨cT,bk⟩ cA ba (by show c.inits.length-(j+1)<c.inits.length-j;omega)
 have lE:j<k:=by simpa using lE
 obtain ⟨y,ax,dc⟩:=b7 (f:=wX) (l:=c.inits) (j:=j) ag;unfold wX at dc;refine pd ?_;refine af.cond C (fun zS=>?_) (fun I1=>?_)
 ·have zS:y.slot=x.slot:=by simpa using zS
  have:((c.inits.take k).map iT.slot).contains x.slot=true:=by
   rw [ah0];refine af8.2 ⟨y,?_,zS⟩;exact d6 (show (c.inits.take k)[j]? = some y by rw [List.getElem?_take,f7 lE,ax])
  rw [this,aj',f6] at bk;rw [bk] at c9;rw [f6] at c9;rw [c9] at gi;refine jK ?_;exact Fin.cE I C (aZ.of_eq (ae6 ah.bool gi.symm))
 have I1:y.slot≠x.slot:=by simpa using I1
 refine fV ?_;exact bD.mk (j+1) I ⟨lE,by rw [jy ax,ae1,ao0,b8,ah2];simpa using I1.symm⟩ cA ba (by show k-(j+1)<k-j;omega)
def O8 (p:bN) (o:eB) (_K:bb):Prop:=∃ v,o = .ret (.cr [v,.bool (fX p)])
theorem ZK (p:bN) (aF:gx p):bI d0 93 [cD p] [] (O8 p):=by
 have an:=bE;have gT:fX p=(nZ p).isSome:=rfl;have b8:nZ p=if po p&&p6 p then (nY p p.methods (H1 p.nodes.length (-1))).bind fun out=>(visitM p false 12 p.main 0 out).bind fun out=>if out.contains (-1) then none else some out else none:=rfl
 have bM:p6 p=(decide (p.dt.length≤8)&&(decide (p.methods.length≤16)&&(decide (p.nodes.length≥1)&&(decide (p.nodes.length≤120)&&p.dt.all fun n=>decide (n≥1)&&decide (n≤3))))):=rfl;have gi:=ZI p aF;have gQ:=fun h=>EC p aF h
 refine bI.bl al Tryz.func93 C C fun s I=>?_
 unfold O8;unfold cD cI eI eX dd bj at *;cases B1:po p with
 | false=>
  rw [B1] at gi;rw [B1,f6,d7 bc] at b8;rw [b8] at gT;refine cl ?_;exact Fin.bC (K:=[]) I C aT .nil ⟨_,by rw [gT];rfl⟩
 | true=>
 rw [B1] at gi;rw [B1,f5] at b8;refine cl ?_;by_cases g1:p.dt.length≤8;rotate_left
 ·rw [i8 g1,f6] at bM
  rw [bM,d7 bc] at b8;rw [b8] at gT;refine ae.dK 20 C cL ?_;refine et ?_;exact Fin.bC (K:=[]) I C aT .nil ⟨_,by rw [gT];rfl⟩
 refine ae.dh 20 C cL ?_;rw [g8 g1,f5] at bM;refine er ?_;by_cases g2:p.methods.length≤16;rotate_left
 ·rw [i8 g2,f6] at bM
  rw [bM,d7 bc] at b8;rw [b8] at gT;refine ae.dK 26 C cL ?_;refine et ?_;exact Fin.bC (K:=[]) I C aT .nil ⟨_,by rw [gT];rfl⟩
 refine ae.dh 26 C cL ?_;rw [g8 g2,f5] at bM;refine er ?_;by_cases g3:p.nodes.length≥1;rotate_left
 ·rw [i8 g3,f6] at bM
  rw [bM,d7 bc] at b8;rw [b8] at gT;refine ae.dK 32 C cL ?_;refine et ?_;exact Fin.bC (K:=[]) I C aT .nil ⟨_,by rw [gT];rfl⟩
 refine ae.dh 32 C cL ?_;rw [g8 g3,f5] at bM;refine gj ?_;refine af.cond C (fun h=>?_) (fun h=>?_)
 ·rw [show decide (p.nodes.length≤120)=false by simp at h ⊢;omega,f6] at bM
  rw [bM,d7 bc] at b8;rw [b8] at gT;refine gE ?_;exact Fin.bC (K:=[]) I C aT .nil ⟨_,by rw [gT];rfl⟩
 have g4:p.nodes.length≤120:=by simp at h;omega
 rw [g8 g4,f5] at bM;refine jL ?_;refine af.ck [1] C I (σ:=Nat) (fun j=>[(4,.int .i64 (j:Int))]) (fun _=>[]) (fun j=>j≤p.dt.length∧(p.dt.all fun n=>decide (n≥1)&&decide (n≤3))=(p.dt.drop j).all fun n=>decide (n≥1)&&decide (n≤3)) (fun j=>p.dt.length-j) 0 ⟨g9 _,rfl⟩ (cK C) ba ?_;rintro j ⟨aI,aw⟩ I
 try simp only at aI aw I ⊢
 refine cf ?_;refine af.cond C (fun az=>?_) (fun a7=>?_)
 ·have az:j<p.dt.length:=by simpa using az
  obtain ⟨x,ab,ch⟩:=b7 (f:=bg) az;rw [drop_cons ab,al8] at aw;unfold bg at ch;refine eh ?_;by_cases aa:x≥1;rotate_left
  ·rw [i8 aa,f6,f6] at aw
   rw [bM,aw,d7 bc] at b8;rw [b8] at gT;refine ae.dK 51 C cL ?_;refine fe ?_;exact Fin.bC (K:=[]) I C aT .nil ⟨_,by rw [gT];rfl⟩
  refine ae.dh 51 C cL ?_;rw [g8 aa,f5] at aw;refine eh ?_;refine af.cond C (fun aj=>?_) (fun aj=>?_)
  ·rw [show decide (x≤3)=false by simp at aj ⊢;omega,f6] at aw
   rw [bM,aw,d7 bc] at b8;rw [b8] at gT;refine jK ?_;exact Fin.bC (K:=[]) I C aT .nil ⟨_,by rw [gT];rfl⟩
  rw [show decide (x≤3)=true by simp at aj ⊢;omega,f5] at aw;refine fV ?_;exact bD.mk (j+1) I ⟨az,aw⟩ cA ba (by show p.dt.length-(j+1)<p.dt.length-j;omega)
 have a7:j=p.dt.length:=by simp at a7;omega
 rw [eE ag,ap2] at aw;rw [aw] at bM;rw [bM,f7 C] at b8;have ZL:∀ n∈p.dt,1≤n∧n≤3:=fun n aB=>by
  have:=af5.1 aw n aB;simpa using this
 clear bM gi;refine bK ?_;refine af.ck [1] C I (σ:=Nat×rp) (fun q=>[(6,.int .i64 (q.1:Int)),(5,la q.2 (H1 q.1 (-1)))]) (fun q=>j6 q.2 (H1 q.1 (-1))) (fun q=>q.1≤p.nodes.length∧sB q.2 (H1 q.1 (-1))) (fun q=>p.nodes.length-q.1) (0,none) ⟨g9 _,rfl⟩ (cK C) .nil ?_;rintro ⟨lK,bt⟩ ⟨y9,db⟩ I
 try simp only at y9 db I ⊢
 refine cf ?_;refine af.cond C (fun az=>?_) (fun ef=>?_)
 ·have az:lK<p.nodes.length:=by simpa using az
  cases bt with
  | none=>
   have ZM:lK=0:=by
    have:H1 lK (-1:Int)=[]:=db;simpa using this
   subst ZM;dsimp only [la,j6] at I ⊢;refine eh ?_;refine ae.Dk al I C C C C C C C eH C C C C C C C (by show 1*8≤_;omega) (fun aY cb cs' cu c2 fg I=>?_);refine hC ?_
   obtain ⟨dT,rfl⟩:∃ dT,cs'=(H1 1 (-1)).map bg++dT:=⟨cs'.drop 1,by
    conv=>lhs;rw [← ah' 1 cs',fg]
    rfl⟩
   exact bD.mk (1,some (aY,cb,dT)) I ⟨by show 1≤p.nodes.length;omega,by show (H1 1 (-1)).length+dT.length=cb;rw [← cu];simp;omega⟩ (by repeat (first|exact trivial|refine ⟨⟨_,rfl,aT⟩,?_⟩|refine ⟨⟨_,rfl,aZ.of_eq (by (first|rfl|rw [ev ag ag];rfl))⟩,?_⟩)) O0 (by show p.nodes.length-1<p.nodes.length-0;omega)
  | some t=>
   obtain ⟨b,cap,dT⟩:=t;have db:(H1 lK (-1:Int)).length+dT.length=cap:=db;rw [ag2] at db;dsimp only [la,j6] at I ⊢;rw [ag2];refine eh ?_;refine ae.Dl al I C C C C C C C eH C C C C a' cL ag Hr C C C (by show _*8≤_;omega) ag (fun aY cb cs' cu c2 fg I=>?_);refine hC ?_;rw [List.take_left' bc] at fg
   obtain ⟨nv,rfl⟩:∃ nv,cs'=(H1 (lK+1) (-1)).map bg++nv:=⟨cs'.drop (lK+1),by
    conv=>lhs;rw [← ah' (lK+1) cs',fg]
    rw [List.replicate_succ',ae1];rfl⟩
   exact bD.mk (lK+1,some (aY,cb,nv)) I ⟨az,by show (H1 (lK+1) (-1)).length+nv.length=cb;rw [← cu];simp⟩ (by repeat (first|exact trivial|refine ⟨⟨_,rfl,aT⟩,?_⟩|refine ⟨⟨_,rfl,aZ.of_eq (by (first|rw [kF ag]|(simp only [la,ag2])))⟩,?_⟩)) O0 (by show p.nodes.length-(lK+1)<p.nodes.length-lK;omega)
 have ef:lK=p.nodes.length:=by simp at ef;omega
 subst ef;cases bt with
 | none=>
  have:H1 p.nodes.length (-1:Int)=[]:=db;have:=ae6 List.length this;simp at this;rw [this] at g3;simp at g3
 | some t=>
 obtain ⟨b,cap,dT⟩:=t;have lN:=G7 B1;have gd:(fG 0 p.cm).length<bx:=by
  have:=lN.bm;have e:(bY p).owner=fG 0 p.cm:=rfl;rw [e] at this;omega
 have gQ:=gQ gd;have pc:=fun f h=>Zt (bY p) lN.ji f h
 have zm:=fun f h=>Zq (bY p) f.size f (g7 _) h
 have a1:=fun k=>ZB k
 unfold eI eX dd bj at pc;dsimp only [la,j6] at I ⊢;rw [ag2];refine ft ?_;refine af.ck [1,5,7] C I (σ:=Nat×List Int) (fun q=>[(8,.int .i64 (q.1:Int))]) (fun q=>cO b (q.2.map bg++dT)) (fun q=>q.1≤p.methods.length∧nY p p.methods (H1 p.nodes.length (-1))=nY p (p.methods.drop q.1) q.2∧q.2.length=p.nodes.length∧∀ x∈q.2,(-1:Int)≤x) (fun q=>p.methods.length-q.1) (0,H1 p.nodes.length (-1)) ⟨g9 _,rfl,ag2,fun x ab=>by rw [(List.mem_replicate.1 ab).2];exact al1 _⟩ (cK C) (by simp only [cO];exact ba) ?_;rintro ⟨i,out⟩ ⟨aS,fj,jf,I2⟩ I
 try simp only at aS fj jf I2 I ⊢
 unfold cO at I ⊢;refine cf ?_;refine af.cond C (fun az=>?_) (fun l9=>?_)
 ·have az:i<p.methods.length:=by simpa using az
  obtain ⟨m,hm,CV⟩:=b7 (f:=mJ) az;have rP:=aF.facts m (d6 hm);rw [drop_cons hm,nY] at fj;have cM:sq p m=(decide (m.kind≥1)&&(decide (m.kind≤4)&&(decide (m.gen≥0)&&(decide (m.gen<(p.dt.length:Int))&&(ig (bY p) m.fact&&decide (iV m.fact≤p.dt.getD m.gen.toNat 0)))))):=rfl;have pc:=pc m.fact ag;have zm:=zm m.fact ag;have a1:=a1 m.kind;rw [av.cG] at pc zm;unfold av.cells at pc zm;unfold mJ oA at CV;refine ft ?_;by_cases cu:m.kind≥1;rotate_left
  ·refine aL.split 86 C (fun _=>?_) (fun h=>absurd h cL)
   rw [i8 cu,f6] at cM;rw [cM,d7 bc] at fj;rw [fj,ai5] at b8;rw [b8] at gT;refine hD ?_;exact Fin.bC (K:=[]) I C aT .nil ⟨_,by rw [gT];rfl⟩
  refine aL.split 86 C (fun h=>absurd h cL) (fun _=>?_);rw [g8 cu,f5] at cM;refine l5 ?_;by_cases c2:m.kind≤4;rotate_left
  ·refine aL.split 91 C (fun _=>?_) (fun h=>absurd h cL)
   rw [i8 c2,f6] at cM;rw [cM,d7 bc] at fj;rw [fj,ai5] at b8;rw [b8] at gT;refine hD ?_;exact Fin.bC (K:=[]) I C aT .nil ⟨_,by rw [gT];rfl⟩
  refine aL.split 91 C (fun h=>absurd h cL) (fun _=>?_);rw [g8 c2,f5] at cM;refine l5 ?_;by_cases fg:m.gen≥0;rotate_left
  ·refine aL.split 96 C (fun _=>?_) (fun h=>absurd h cL)
   rw [i8 fg,f6] at cM;rw [cM,d7 bc] at fj;rw [fj,ai5] at b8;rw [b8] at gT;refine hD ?_;exact Fin.bC (K:=[]) I C aT .nil ⟨_,by rw [gT];rfl⟩
  refine aL.split 96 C (fun h=>absurd h cL) (fun _=>?_);rw [g8 fg,f5] at cM;refine l5 ?_;by_cases eG:m.gen<(p.dt.length:Int);rotate_left
  ·refine aL.split 104 C (fun _=>?_) (fun h=>absurd h cL)
   rw [i8 eG,f6] at cM;rw [cM,d7 bc] at fj;rw [fj,ai5] at b8;rw [b8] at gT;refine hD ?_;exact Fin.bC (K:=[]) I C aT .nil ⟨_,by rw [gT];rfl⟩
  refine aL.split 104 C (fun h=>absurd h cL) (fun _=>?_);rw [g8 eG,f5] at cM;cases jU:ig (bY p) m.fact with
  | false=>
   rw [jU] at pc;rw [jU,f6] at cM;refine cl ?_;rw [cM,d7 bc] at fj;rw [fj,ai5] at b8;rw [b8] at gT;skip;exact Fin.bC (K:=[]) I C aT .nil ⟨_,by rw [gT];rfl⟩
  | true=>
  rw [jU] at pc;rw [jU,f5] at cM;have zm:=zm (sm _ _ _ _ jU);obtain ⟨q,bn⟩:∃ q:Nat,m.gen=q:=⟨m.gen.toNat,by omega⟩;obtain ⟨y,ax,dc⟩:=b7 (f:=bg) (l:=p.dt) (j:=q) ag;have w6:p.dt.getD m.gen.toNat 0=y:=by rw [bn,i9,d5,ax];rfl
  have adb:=ZL y (d6 ax);rw [w6] at cM fj;unfold bg at dc;rw [bn] at CV ⊢;refine c5 ?_;refine af.cond C (fun jq=>?_) (fun jq=>?_)
  ·have jq:¬ iV m.fact≤y:=by simp at jq;omega
   rw [i8 jq] at cM;rw [cM,d7 bc] at fj;rw [fj,ai5] at b8;rw [b8] at gT;refine jK ?_;exact Fin.bC (K:=[]) I C aT .nil ⟨_,by rw [gT];rfl⟩
  have jq:iV m.fact≤y:=by simp at jq;omega
  rw [g8 jq] at cM;rw [cM,f7 C] at fj;have rQ:=O3 p aF g4 (tR m.kind) b dT cap 12 (g7 _) m.node y ag ag out jf;unfold cD cI bj cO at rQ;cases ar:visitM p (tR m.kind) 12 m.node y out with
  | none=>
   rw [ar] at rQ;rw [ar,ai5] at fj;rw [fj,ai5] at b8;rw [b8] at gT;refine pe ?_;refine aL.kH rfl rfl rfl rfl rfl rfl rQ I (aJ.all _) ?_ (fun _ _ ⟨h,_⟩ _=>by cases h);rintro _ _ ⟨⟨⟩,cs,rfl⟩ I;rw [d9] at I ⊢;unfold cO at I ⊢;refine hD ?_;skip;exact Fin.bC (K:=[]) I C aT .nil ⟨_,by rw [gT];rfl⟩
  | some e5=>
   have pY:=rO ag ar;have I3:=OX ag I2 ar;rw [ar] at rQ;rw [ar,ai'] at fj;refine pe ?_;refine aL.kH rfl rfl rfl rfl rfl rfl rQ I (aJ.all _) ?_ (fun _ _ ⟨h,_⟩ _=>by cases h);rintro _ _ ⟨⟨⟩,rfl⟩ I;rw [d9] at I ⊢;unfold cO at I ⊢;refine ki ?_;exact bD.mk (i+1,e5) I ⟨az,fj,by show e5.length=_;omega,I3⟩ cA (by simp only [cO];exact ba) (by show p.methods.length-(i+1)<p.methods.length-i;omega)
 have l9:i=p.methods.length:=by simp at l9;omega
 rw [eE ag,nY] at fj;rw [fj,ai'] at b8;have rQ:=O3 p aF g4 false b dT cap 12 (g7 _) p.main 0 (al1 _) ag out jf;unfold cD cI bj cO at rQ;refine bK ?_;cases ar:visitM p false 12 p.main 0 out with
 | none=>
  rw [ar] at rQ;rw [ar,ai5] at b8;rw [b8] at gT;refine ae.b4 rfl rfl rfl rfl rfl rQ I (aJ.all _) ?_ (fun _ _ ⟨h,_⟩ _=>by cases h);rintro _ _ ⟨⟨⟩,cs,rfl⟩ I;rw [d9] at I ⊢;unfold cO at I ⊢;refine et ?_;exact Fin.bC (K:=[]) I C aT .nil ⟨_,by rw [gT];rfl⟩
 | some e5=>
 have pY:=rO (al1 _) ar;have I3:=OX (al1 _) I2 ar;rw [ar] at rQ;rw [ar,ai'] at b8;refine ae.b4 rfl rfl rfl rfl rfl rQ I (aJ.all _) ?_ (fun _ _ ⟨h,_⟩ _=>by cases h);rintro _ _ ⟨⟨⟩,rfl⟩ I;rw [d9] at I ⊢;unfold cO at I ⊢;refine bK ?_;refine af.ck [1,5] C I (σ:=Nat) (fun j=>[(10,.int .i64 (j:Int))]) (fun _=>cO b (e5.map bg++dT)) (fun j=>j≤p.nodes.length∧(e5.take j).contains (-1)=false) (fun j=>p.nodes.length-j) 0 ⟨g9 _,rfl⟩ (cK C) (by simp only [cO];exact ba) ?_;rintro vD ⟨Ik,ie⟩ I
 try simp only at Ik ie I ⊢
 unfold cO at I ⊢;refine kG ?_;refine ae.tI al C C C C C C C ?_;refine gj ?_;refine af.cond C (fun I4=>?_) (fun O9=>?_)
 ·have I4:vD<p.nodes.length:=by simpa using I4
  obtain ⟨z,bG⟩:∃ z,e5[vD]? = some z:=⟨_,d8 ag⟩;have Hn:=I3 z (d6 bG);have H5:e5.getD vD 0=z:=by rw [d5,bG];rfl
  refine eh ?_;refine ae.gF al vD C C C C C C C C C C ag ?_;refine ae.lF al I C C C C C C a' C (IX ag) ?_;rw [H5];refine gj ?_;refine af.cond C (fun aB=>?_) (fun aB=>?_)
  ·have aB:z = -1:=by simp at aB;omega
   subst aB;rw [show e5.contains (-1)=true from ah0.2 (d6 bG),f7 C] at b8;rw [b8] at gT;refine jK ?_;exact Fin.bC (K:=[]) I C aT .nil ⟨_,by rw [gT];rfl⟩
  have aB:z ≠ -1:=by simp at aB;omega
  refine fV ?_;exact bD.mk (vD+1) I ⟨I4,by rw [jy bG,ao0,ie,ah2];simpa using fun e=>aB e.symm⟩ cA (aJ.all _) (by show p.nodes.length-(vD+1)<p.nodes.length-vD;omega)
 have O9:vD=p.nodes.length:=by simp at O9;omega
 rw [List.take_of_length_le ag] at ie;rw [ie,d7 bc] at b8;rw [b8] at gT;refine ew ?_;exact Fin.bC (K:=[]) I C aT .nil ⟨_,by rw [gT];rfl⟩
theorem O' (p:bN) (aF:gx p):aV d0 45 [cD p] (.bool (fX p)):=by
 have aa:=ZK p aF;refine aV.bl al Tryz.func45 C C fun s I=>?_
 unfold cD cI at *;refine dS ?_;refine ae.b4 rfl rfl rfl rfl rfl aa I .nil ?_ (fun _ _ ⟨_,h⟩ _=>by cases h);rintro _ aQ ⟨v,⟨⟩⟩ I;refine et ?_;exact br I
def pG (w:bz) (L:List cv):Prop:=∀ x∈L,hM w x.1=true∧x.1.cU=true
def zn (arg:Int) (path:List Int) (x:cv):Bool:=decide (x.1.arg=arg)&&x.1.path==path
def gf (L:List cv) (arg:Int) (path:List Int):List cv:=L.filter (zn arg path)
def Pa (path I5:List Int):Bool:=decide (path.length≥I5.length)&&path.take I5.length==I5
def vE (arg:Int) (path:List Int) (x:cv):Bool:=decide (x.1.arg=arg)&&Pa x.1.path path
def rR (L:List cv) (arg:Int) (path:List Int) (s:Int):Bool:=L.any (vE arg (path++[s]))
def n8 (n:Nat) (L:List cv) (arg:Int) (path:List Int):List Int:=((ah8 n).filter fun s=>rR L arg path (s:Nat)).map fun s:Nat=>(s:Int)
def mj (L:List cv) (arg:Int) (path:List Int):Bool := !L.any fun x => !x.2&&vE arg path x
def vF (n:Nat) (L:List cv) (arg:Int) (path:List Int):Bool:=(n8 n L arg path).all fun s=>mj L arg (path++[s])
def s0:List cv→Int×Int×List Int→Option (Int×Int×List Int)
 | [],a=>some a
 | x::r,a=>
  if x.1.op=2 then (if decide (x.1.cls>1) != x.2 then none else s0 r a)
  else if x.1.op=3 then (if x.2 then s0 r (max a.1 x.1.n,a.2.1,a.2.2) else s0 r (a.1,min a.2.1 (x.1.n-1),a.2.2))
  else if x.2 then s0 r (a.1,a.2.1,a.2.2++[x.1.n])
  else s0 r (max a.1 x.1.n,min a.2.1 x.1.n,a.2.2)
def zo:Nat→Int→List Int→Int
 | 0,n,_=>n
 | k+1,n,l=>if l.contains n then zo k (n+1) l else n
def xO (n:Nat) (L:List cv) (arg:Int) (path:List Int):Bool:=
 match s0 (gf L arg path) (-1000000000,1000000000,[]) with
 | none=>false
 | some a=>decide (zo (a.2.2.length+1) a.1 a.2.2≤a.2.1)&&vF n L arg path
def ED (x:cv):Bool:=(decide (x.1.op=2)&&(decide (x.1.cls=0)||decide (x.1.cls=2)))==x.2
def B2 (n:Nat) (L:List cv) (arg:Int) (path:List Int):Bool:=((gf L arg path).all fun x => !ED x)&&vF n L arg path
def uh:List cv→(Nat→Bool)×(Nat→Bool)→Option ((Nat→Bool)×(Nat→Bool))
 | [],a=>some a
 | x::r,a=>
  if x.1.op≠2∨x.1.cls=1∨x.1.cls=2 then (if x.2 then uh r a else none)
  else if x.2 then uh r (a.1,fun k=>if k=x.1.cls.toNat then true else a.2 k)
  else uh r (fun k=>if k=x.1.cls.toNat then true else a.1 k,a.2)
def xP (w:bz) (L:List cv) (cn:List Int→Bool) (arg:Int) (path:List Int):List Int→(Nat→Bool)×(Nat→Bool)→Option ((Nat→Bool)×(Nat→Bool))
 | [],a=>some a
 | s::r,a=>
  if !mj L arg (path++[s]) && !cn (path++[s]) then none
  else xP w L cn arg path r (if mj L arg (path++[s]) then a.1 else fun k=>if k=(w.owner.getD s.toNat 0).toNat then true else a.1 k,
   if cn (path++[s]) then a.2 else fun k=>if k=(w.owner.getD s.toNat 0).toNat then true else a.2 k)
def B3 (w:bz) (L:List cv) (cn:List Int→Bool) (arg:Int) (path:List Int):Bool:=
  match uh (gf L arg path) (fun _=>false,fun _=>false) with
  | none=>false
  | some a=>match xP w L cn arg path (n8 w.owner.length L arg path) a with
    | none=>false
    | some a => !a.2 0&&(ah8 (3+w.ps.length)).all fun k => !(hX w.ps w.ps.length (fun k=>if k=0 then false else a.1 k) k&&a.2 k)
def qs (w:bz) (L:List cv) (arg:Int):Nat→List Int→Bool
 | 0,_=>false
 | k+1,path=>xO w.owner.length L arg path||(B2 w.owner.length L arg path||B3 w L (qs w L arg k) arg path)
def EE (w:bz) (L:List cv):Bool:=(ah8 3).all fun a=>qs w L ((a:Nat):Int) 3 []
mutual
theorem I6:∀ (f:av) (w:bz) (b:Bool),gy w f=true→∀ l∈h6 b f,∀ x∈l,gy w x.1=true∧x.1.cU=true
  | .mk o a p c n ks,w,b,aq,l,h,x,ab=>by
    have nb:=aq;rw [gy,f4] at nb;rw [h6] at h;split at h
    · split at h
      · cases h
      · rw [t6] at h;subst h;cases ab
    · split at h
      · exact zp ks w _ 0 nb.2 l h x ab
      · split at h
        · rename_i aC
          rw [t6] at h;subst h;rw [t6] at ab;subst ab;exact ⟨aq,aC⟩
        · split at h
          · rcases ae2.1 h with h|h
            · exact zp ks w _ 0 nb.2 l h x ab
            · exact zp ks w _ 1 nb.2 l h x ab
          · obtain ⟨u,hu,h⟩:=List.mem_flatMap.1 h
            obtain ⟨v,ar,rfl⟩:=af8.1 h;rcases DG v u ab with ab|ab
            · exact zp ks w _ 0 nb.2 u hu x ab
            · exact zp ks w _ 1 nb.2 v ar x ab
theorem zp:∀ (ks:List av) (w:bz) (b:Bool) (n:Nat),j5 w ks=true→∀ l∈ih b n ks,∀ x∈l,gy w x.1=true∧x.1.cU=true
  | [],_,b,n,_,l,h,_,_=>by rw [ih] at h;cases h
  | y::r,w,b,0,aq,l,h,x,ab=>by
    rw [j5,f4] at aq;rw [ih] at h;exact I6 y w b aq.1 l h x ab
  | y::r,w,b,n+1,aq,l,h,x,ab=>by
    rw [j5,f4] at aq;rw [ih] at h;exact zp r w b n aq.2 l h x ab
end
theorem ZN (w:bz) (f:av) (aX:f.size<bx) (aq:gy w f=true) (b:Bool):yu d0 242 [] [.bA f.cells 0,.bA [.bool b] 0] [] qc (h6 b f):=by
 intro l Go fD fK pf K bk;have di:∀ dQ,A7 dQ (lY l) (fun xs K=>∃ aQ,K=aQ++[(.own dQ,sw dQ)]∧Go xs aQ) (fun K=>∃ aQ,K=aQ++[(.own dQ,sw dQ)]∧fD aQ) (fun v K=>∃ aQ,K=aQ++[(.own dQ,sw dQ)]∧fK v aQ):=fun dQ=>by
  refine ⟨rfl,fun x rem K ⟨aQ,e,aq⟩=>?_,fun xs K ⟨aQ,e,_⟩=>⟨aQ++[],by subst e;exact bp.app aQ .here⟩,fun K ⟨aQ,e,_⟩=>⟨aQ++[],by subst e;exact bp.app aQ .here⟩⟩;subst e;refine ds.frame (R:=[(.own dQ,sw dQ)]) (pf x rem aQ aq) (aJ.jx (aJ.eb aQ)) ?_;rintro o lM (⟨rfl,h⟩|⟨rfl,h⟩|⟨v,rfl,h⟩)
  ·exact .inl ⟨rfl,lM,rfl,h⟩
  ·exact .inr (.inl ⟨rfl,lM,rfl,h⟩)
  ·exact .inr (.inr ⟨v,rfl,lM,rfl,h⟩)
 have hw:=fun dQ=>ds.fm (first:=[]) (args:=[f.cj,.bool b,lY l]) (cap:=[.ptr dQ 0]) (VY w dQ f.size f (g7 _) aX aq b (lY l) _ _ _ (di dQ) [] (K++[(.own dQ,sw dQ)]) ⟨K,rfl,by rw [d9];exact bk⟩)
 rw [av.cG] at hw;refine bI.bl al Tryz.func242 C C fun s I=>?_
 rw [f0] at I ⊢;unfold av.cells;unfold av.cells at hw
 repeat (first|(refine TY I ?_;clear I;intro I)|refine ae.dZ al I rfl rfl rfl rfl rfl rfl rfl (fun cB I=>?_))
 refine ae.gM C C C C C C (hw cB) I (aJ.ix (List.perm_append_singleton _ _).symm) ?_ ?_
 ·rintro x _ (⟨⟨⟩,lM,rfl,h⟩|⟨⟨⟩,lM,rfl,h⟩|⟨_,⟨⟩,_⟩) I
  all_goals rw [d9] at I ⊢
  ·refine gj ?_
   exact Fin.bC I C aT (aJ.jx (aJ.eb lM)) (.inl ⟨rfl,.inl h⟩)
  ·refine gj ?_
   exact Fin.bC I C aT (aJ.jx (aJ.eb lM)) (.inl ⟨rfl,.inr h⟩)
 ·rintro x _ (⟨h,_⟩|⟨h,_⟩|⟨v,⟨⟩,lM,rfl,h⟩) I
  ·cases h
  ·cases h
  rw [d9] at I ⊢;exact Fin.fc I aT (aJ.jx (aJ.eb lM)) (.inr ⟨_,rfl,h⟩)
theorem ZO (f:av) (b:Bool):aV d0 210 [f.cj,.bool b] (.func 242 [] [.bA f.cells 0,.bA [.bool b] 0]):=by
 have an:=bE;refine aV.bl al Tryz.func210 C C fun s I=>?_
 rw [av.cG];unfold av.cells;refine gE ?_;exact br I
def xQ (w:bz) (f:av):Bool:=(h6 false f).any fun l=>oJ w (ek l)
theorem ZP (w:bz) (hw:fw w) (f:av) (aX:3*f.size+3<bx) (aq:gy w f=true):aV d0 174 [gl w,f.cj] (.bool (xQ w f)):=by
 have an:=bE;refine aV.bl al Tryz.func174 C C fun s I=>?_
 have aD:=ZO f false;have ox:=ZN w f ag aq false;have ZQ:=fun (l:List cv) (h:l∈h6 false f)=>XW w hw l (by have:=(G9 f false l h).1;omega) (fun x ab=>⟨(I6 f w false aq l h x ab).1,(I6 f w false aq l h x ab).2⟩)
 rw [av.cG] at aD ⊢;unfold av.cells at *;unfold gl e6 at *
 repeat (first|(refine TZ I ?_;clear I;intro I)|refine ae.dZ al I rfl rfl rfl rfl rfl rfl rfl (fun cB I=>?_)|(refine p0 ?_))
 refine af.Gv I C dV ox .nil (fun rem K=>(∀ l∈rem,l∈h6 false f)∧xQ w f=(rem.any fun l=>oJ w (ek l))∧K=[(.own cB,.box 4 [.bool false])]) (fun j K=>j = .exit 0∧xQ w f=true∧K=[(.own cB,.box 4 [.bool true])]) (fun _ _=>False) ⟨fun _ h=>h,rfl,rfl⟩ ?_ ?_ ?_ (fun _ _ h=>h.elim)
 ·rintro s₁ l rem K ⟨hm,aE,rfl⟩ I
  have Pb:=ZQ l (hm l i6);rw [ak7] at aE;cases EF:oJ w (ek l) with
  | true=>
   rw [EF] at Pb;rw [EF,am1] at aE;refine hq I ?_;intro I;exact At.mk _ I (aJ.eb _) ⟨rfl,aE,rfl⟩
  | false=>
   rw [EF] at Pb;rw [EF,ah2] at aE;refine cl ?_;exact At.mk _ I (aJ.eb _) ⟨fun l h=>hm l (i0 _ h),aE,rfl⟩
 ·rintro K ⟨_,aE,rfl⟩ I
  have aE:xQ w f=false:=aE;rw [aE];refine ct I ?_;intro I;exact br I
 ·rintro j K ⟨rfl,aE,rfl⟩ I
  rw [aE];refine ct I ?_;intro I;exact br I
theorem ZR (w:bz) (hw:fw w) (f:av) (aX:3*f.size+3<bx):aV d0 127 [eI w,f.cj] (.cr [.bool (ig w f&&xQ w f),.int .i64 (if ig w f then 0 else 2)]):=by
 have an:=bE;refine aV.bl al Tryz.func127 C C fun s I=>?_
 have aa:=Hh w hw [f] cL (by intro g aq;rw [t6] at aq;subst aq;omega);rw [ae0,ag7,av.cG] at aa;rw [al8,ap2,aq6] at aa;cases vw:ig w f with
 | false=>
  rw [vw] at aa;rw [av.cG];unfold eI eX dd bj at *;unfold gl e6 at *;refine cl ?_;exact br I
 | true=>
  rw [vw] at aa;have ad:=ZP w hw f aX (sm f w 12 24 vw);rw [av.cG] at ad ⊢;unfold eI eX dd bj at *;unfold gl e6 at *;refine cl ?_;exact br I
theorem Pc (f:av):hv f f=true:=by unfold hv;simp
theorem ZS {l:List av} (f:av) (h:l.Nodup):(j8 l f).Nodup:=by
 unfold j8;split
 ·exact h
 ·rename_i aB
  rw [List.nodup_append];refine ⟨h,by simp,fun a aO b an=>?_⟩;rw [t6.1 an];rintro rfl;exact aB (af4.2 ⟨a,aO,Pc a⟩)
theorem Pd:∀ (cZ l:List av),l.Nodup→(cZ.foldl j8 l).Nodup
 | [],_,h=>h
 | x::r,l,h=>Pd r _ (ZS x h)
theorem Pe (gen:Int):∀ (ms:List gN) (l:List av),l.Nodup→(ms.foldl (ld gen) l).Nodup
 | [],_,h=>h
 | m::r,l,h=>Pe gen r _ (by unfold ld;split;exact Pd _ _ h;exact h)
theorem ZT (p:bN) (gen:Int):(cy p gen).Nodup:=Pe gen _ _ List.nodup_nil
def s3 (f:av) (b:Bool):av:=if b then f else f.not
def s4 (v:Nat):Nat→List av→av→av
 | _,[],a=>a
 | i,f::r,a=>s4 v (i+1) r (if i=0 then s3 f (v.testBit i) else a.and (s3 f (v.testBit i)))
def xR (l:List av) (v:Nat):av:=s4 v 0 l (.mk 1 0 [] 0 0 [])
theorem xS {w:bz} {f:av} (aq:gy w f=true) (aC:f.cU=true):f.kids=[]:=by
 rw [oC,f4] at aq;rcases A3 aq.1 with ⟨_,h⟩|⟨_,h,_⟩|⟨h,_⟩|⟨h,_⟩
 ·exact h
 ·exact h
 ·unfold av.cU at aC;rw [h] at aC;cases aC
 ·unfold av.cU at aC;rcases h with h|h<;>(rw [h] at aC;cases aC)
theorem ZU {f:av} (aC:f.cU=true):f.op=2∨f.op=3∨f.op=4:=by unfold av.cU at aC;simp at aC;omega
theorem Pf {f:av} (aC:f.cU=true) (b:Bool):h6 b f=[[(f,b)]]:=by
 have:=ZU aC;rw [L',d7 ag,d7 ag,f7 aC]
theorem ZV {f:av} (aC:f.cU=true) (b:Bool):h6 false (s3 f b)=[[(f,!b)]]:=by
 cases b with
 | true=>exact Pf aC false
 | false=>
  show h6 false f.not=_;unfold av.not;rw [h6,d7 dV,f7 C,ih];exact Pf aC true
theorem ZW {a x:av} {mX Pg:List cv} (aO:h6 false a=[mX]) (ab:h6 false x=[Pg]):h6 false (a.and x)=[jO mX Pg]:=by
 unfold av.and;rw [h6,d7 dV,d7 dV,d7 (by simp [av.cU,av.op]),d7 dV,ih,ih,ih,aO,ab];rfl
theorem ZX {mX:List cv} {x:cv} (h:∀ y∈mX,y.1≠x.1):jO mX [x]=mX++[x]:=by
 show re mX x=_;unfold re;rw [d7];intro aB;obtain ⟨y,ax,ad⟩:=af4.1 aB;exact h y ax (by rw [(U4 x y).1 ad])
theorem Ph (v:Nat):∀ (l:List av) (i:Nat) (a:av) (mX:List cv),(∀ x∈l,x.cU=true)→l.Nodup→(∀ y∈mX,y.1∉l)→(i=0→mX=[])→h6 false a=[mX]→h6 false (s4 v i l a)=[mX++sI i l v]
  | [],i,a,mX,_,_,_,_,h=>by rw [s4,sI,d9];exact h
  | f::r,i,a,mX,aC,aB,ay,bo,h=>by
    rw [List.nodup_cons] at aB;have cg:∀ y∈mX++[(f,!v.testBit i)],y.1∉r:=fun y ax=>by
      rcases ae2.1 ax with ax|ax
      · exact fun hm=>ay y ax (i0 _ hm)
      · rw [t6.1 ax];exact aB.1
    have e:=ZV (aC f i6) (v.testBit i);have au:h6 false (if i=0 then s3 f (v.testBit i) else a.and (s3 f (v.testBit i)))=[mX++[(f,!v.testBit i)]]:=by
      split
      · rename_i aS;rw [bo aS,e];rfl
      · rw [ZW h e,ZX]
        intro y ax he;refine ay y ax ?_;rw [he];exact i6
    rw [s4,sI,Ph v r (i+1) _ _ (fun x ab=>aC x (i0 _ ab)) aB.2 cg ag au,List.append_assoc];rfl
theorem ZY {l:List av} (aC:∀ x∈l,x.cU=true) (aB:l.Nodup) (v:Nat):h6 false (xR l v)=[yX l v]:=
 Ph v l 0 _ [] aC aB (fun _ h=>by cases h) (fun _=>rfl) (by rw [h6];simp)
theorem Pj {w:bz} {f:av} (aq:gy w f=true) (aC:f.cU=true) {d:Nat} {k:Int} (ay:1≤d) (aA:1≤k):e2 w d k f=(true,k-1):=by
 have ZZ:=xS aq aC;rw [oC,f4] at aq;obtain ⟨o,a,p,c,n,ks⟩:=f;rw [e2,d7 cL,f7 aq.1];have:ks=[]:=ZZ;rw [this,ha]
theorem Z0 {w:bz} {f:av} {d:Nat} {k m:Int} (h:e2 w d (k-1) f=(true,m)) (aA:1≤k):e2 w (d+1) k f.not=(true,m):=by
 unfold av.not;rw [e2,d7 cL,f7 (by rfl),aq1,ha,h,f7 C,ha]
theorem Z1 {w:bz} {f g:av} {d:Nat} {k m r:Int} (h:e2 w d (k-1) f=(true,m)) (ad:e2 w d m g=(true,r)) (aA:1≤k):e2 w (d+1) k (f.and g)=(true,r):=by
 unfold av.and;rw [e2,d7 cL,f7 (by rfl),aq1,ha,h,f7 C,ha,ad,f7 C,ha]
theorem Pk {w:bz} {f:av} (aq:gy w f=true) (aC:f.cU=true) (b:Bool) {d:Nat} {k:Int} (ay:2≤d) (aA:2≤k):∃ m,e2 w d k (s3 f b)=(true,m)∧k-2≤m:=by
 cases b with
 | true=>exact ⟨k-1,Pj aq aC ag ag,by omega⟩
 | false=>
  obtain ⟨e,rfl⟩:∃ e,d=e+1:=⟨d-1,by omega⟩;exact ⟨k-1-1,Z0 (Pj aq aC ag ag) ag,by omega⟩
def B4 (w:bz) (i:Nat) (a:av):Prop:=∀ (d:Nat) (k:Int),i+1≤d→3*(i:Int)≤k→1≤k→∃ m,e2 w d k a=(true,m)∧k-(if i=0 then 1 else 3*(i:Int)-1)≤m
theorem B4.next {w:bz} {i:Nat} {a f:av} {b:Bool} (h:B4 w i a) (aq:gy w f=true) (aC:f.cU=true):B4 w (i+1) (if i=0 then s3 f b else a.and (s3 f b)):=by
 intro d k ay aA ky;split
 ·rename_i bo
  subst bo;obtain ⟨m,aa,ad⟩:=Pk aq aC b (d:=d) (k:=k) ag ag;exact ⟨m,aa,by simp;omega⟩
 ·rename_i bo
  obtain ⟨e,rfl⟩:∃ e,d=e+1:=⟨d-1,by omega⟩;obtain ⟨m,aa,ad⟩:=h e (k-1) ag ag ag;rw [d7 bo] at ad;obtain ⟨r,aj,a8⟩:=Pk aq aC b (d:=e) (k:=m) ag ag;exact ⟨r,Z1 aa aj ag,by rw [d7 ag];push_cast;omega⟩
theorem Pl {w:bz} (v:Nat):∀ (l:List av) (i:Nat) (a:av),kr w l→B4 w i a→B4 w (i+l.length) (s4 v i l a)
  | [],i,a,_,h=>h
  | f::r,i,a,cx,h=>by
    have aa:=cx f i6;have:=Pl (w:=w) v r (i+1) _ (fun x ab=>cx x (i0 _ ab)) (h.next (b:=v.testBit i) aa.1 aa.2);rw [s4,i5,show i+(r.length+1)=i+1+r.length by omega];exact this
theorem Z2 {w:bz} {l:List av} (cx:kr w l) (ia:l.length≤7) (v:Nat):ig w (xR l v)=true:=by
 have:=Pl (w:=w) v l 0 (.mk 1 0 [] 0 0 []) cx (fun d k ay _ ky=>⟨k-1,by
  rw [e2,d7 cL,f7 (by rfl),ha],by simp⟩)
 obtain ⟨m,aa,-⟩:=this 12 24 ag ag ag;unfold ig;show (e2 w 12 24 (xR l v)).1=true;unfold xR;rw [aa]
theorem Z3 {w:bz} {l:List av} (cx:kr w l) (ia:l.length≤7) (aB:l.Nodup) (v:Nat):(ig w (xR l v)&&xQ w (xR l v))=pz w l v:=by
 rw [Z2 cx ia,f5];unfold xQ pz;rw [ZY (fun x ab=>(cx x ab).2) aB];simp
theorem Z4 (v c:Nat):(((v >>> c &&& 1:Nat):Int)==0) = !v.testBit c:=by
 rw [← DW,Nat.and_one_is_mod];have:v >>> c % 2=0∨v >>> c % 2=1:=by omega
 rcases this with h|h<;>rw [h]<;>rfl
theorem Pm (f:av):f.not.size=1+f.size:=by
 unfold av.not;rw [av.size,av.iS,av.iS,ag0];omega
theorem Pn (f g:av):(f.and g).size=1+f.size+g.size:=by
 unfold av.and;rw [av.size,av.iS,av.iS,av.iS,ag0];omega
theorem Po (p:bN) (ec:fX p=true) (n:Int) (l:List av) (vs:ah) (an cC cd:Nat) (gB:l.length≤7) (cx:kr (bY p) l) (ez:l.Nodup) (v:Nat) (ar:v<2^63) :
  bI d0 80 [.ptr cd 0,.int .i64 (v:Int)] [ey p n (ei l) vs an cC cd] (fun o K=>o = .ret (.bool (pz (bY p) l v))∧K=[ey p n (ei l) vs an cC cd]):=by
 have oo:bx=1099511627776:=rfl;have lN:=vr ec;rw [← Z3 cx gB ez v];refine bI.bl al Tryz.func80 C C fun s I=>?_
 unfold ey eu ei at *
 repeat (first|(refine Gk I ?_;clear I;intro I)|refine ae.dZ al I rfl rfl rfl rfl rfl rfl rfl (fun cB I=>?_))
 refine af.rz I (av.mk 1 0 [] 0 0 []).cells (kb:=cB) a' (by
  repeat (first|exact cS.nil|refine cS.cons (by first|exact aT|exact aZ.empty) ?_)) (fun I=>?_)
 obtain ⟨B5,rfl⟩:∃ x,x=cB:=⟨_,rfl⟩;skip;refine af.ck [0,1,5,14,15] C I (σ:=Nat×av×List ah) (fun q=>[(16,.int .i64 (q.1:Int))]) (fun q=>[(.own B5,.box 58 q.2.2),ey p n (ei l) vs an cC cd]) (fun q=>cS q.2.2 q.2.1.cells∧q.1≤l.length∧q.2.1.size≤1+6*q.1∧xR l v=s4 v q.1 (l.drop q.1) q.2.1) (fun q=>l.length-q.1) (0,.mk 1 0 [] 0 0 [],(av.mk 1 0 [] 0 0 []).cells) ⟨cS.refl _,g9 _,by simp [av.size,av.iS],rfl⟩ (cK C) xM ?_;rintro ⟨j,acc,cs⟩ ⟨hle,aI,cc,aw⟩ I;simp only [ey,eu,ei] at hle aI cc aw I ⊢;refine af.rz I acc.cells (kb:=B5) a' hle (fun I=>?_);refine cf ?_;refine af.cond C (fun az=>?_) (fun a7=>?_);rotate_left
 ·have a7:j=l.length:=by simp at a7;omega
  rw [eE ag,s4] at aw;rw [aw];have aD:=ZR (bY p) lN acc ag;rw [av.cG] at aD;unfold eI eX at aD;refine af.mE I 5 B5 C .here (fun I=>?_);cases aX:ig (bY p) acc with
  | true=>
   rw [aX] at aD;simp only [f5,ag5] at aD ⊢
   repeat (first
    | refine af.q8 I cd .here al mixed C ?_
    | with_reducible apply af.seq
    | with_reducible apply b0
    | with_reducible apply lZ
    | with_reducible apply fp
    | with_reducible apply l0
    | with_reducible apply af.exit)
   refine cl ?_;exact Fin.bC I C aT (aJ.all _) ⟨rfl,rfl⟩
  | false=>
   rw [aX] at aD;simp only [f6,af7,ah9] at aD ⊢
   repeat (first
    | refine af.q8 I cd .here al mixed C ?_
    | with_reducible apply af.seq
    | with_reducible apply b0
    | with_reducible apply lZ
    | with_reducible apply fp
    | with_reducible apply l0
    | with_reducible apply af.exit)
   refine cl ?_;exact Fin.bC I C aT (aJ.all _) ⟨rfl,rfl⟩
 have az:j<l.length:=by simpa using az
 obtain ⟨f,ab,ch⟩:=b7 (f:=av.cj) az;have sV:=cx f (d6 ab);have rP:f.size≤3:=by
  have aa:=f.size_eq;have ad:=y' sV.1 sV.2;have aj:=xS sV.1 sV.2;rw [aj,av.iS] at aa;omega
 rw [drop_cons ab,s4] at aw;rw [av.cG] at ch;have oX:=Z4 v j;unfold av.cells at ch I ⊢
 repeat (first|(refine wO I ?_;clear I;intro I)|refine ae.dZ al I rfl rfl rfl rfl rfl rfl rfl (fun cB I=>?_))
 refine ae.shr _ C C C C C C ag (u0 ag) ?_;refine ae.bits _ C C C C C C (Dq (n:=1) (ak3 (aq7 v j) ar) ag) ?_;refine gj ?_;cases pb:v.testBit j with
 | true=>
  rw [pb] at oX;rw [pb,show s3 f true=f from rfl] at aw;refine af.cond C (fun h=>absurd h (by rw [oX];simp)) (fun _=>?_);cases j with
  | zero=>
   rw [f7 C] at aw;refine hq I ?_;intro I;refine bD.mk (1,f,?_) I ?_ Dj OZ (by show l.length-1<l.length-0;omega);refine ⟨?_,az,by show av.size f≤7;omega,aw⟩;exact cS.refl _
  | succ k=>
   rw [d7 ag] at aw;refine hq I ?_;intro I;refine bD.mk (k+2,acc.and f,?_) I ?_ Aq xM (by show l.length-(k+2)<l.length-(k+1);omega)
   refine ⟨?_,az,(by
    have bB:av.size f≤5:=by omega
    show (acc.and f).size≤1+6*(k+2)
    rw [Pn];omega),aw⟩
   show cS _ (acc.and f).cells;unfold av.and av.cells;refine .cons aT (.cons aT (.cons aZ.empty (.cons aT (.cons aT (.one ?_)))));simp only [av.kids,ae0,ag7,av.cG];exact aZ.bd
 | false=>
  rw [pb] at oX;rw [pb,show s3 f false=f.not from rfl] at aw;refine af.cond C (fun _=>?_) (fun h=>absurd h (by rw [oX];simp));refine hq I ?_;intro I
  refine af.rz I f.not.cells (kb:=cB) a' (by
   unfold av.not av.cells
   refine .cons aT (.cons aT (.cons aZ.empty (.cons aT (.cons aT (.one ?_)))))
   simp only [av.kids,ae0,ag7,av.cG]
   exact aZ.bd) (fun I=>?_)
  cases j with
  | zero=>
   rw [f7 C] at aw;refine hq I ?_;intro I;refine bD.mk (1,f.not,?_) I ?_ Dj OZ (by show l.length-1<l.length-0;omega);refine ⟨?_,az,by show av.size f.not≤7;(rw [Pm];omega),aw⟩;exact cS.refl _
  | succ k=>
   rw [d7 ag] at aw;refine hq I ?_;intro I;refine bD.mk (k+2,acc.and f.not,?_) I ?_ Aq xM (by show l.length-(k+2)<l.length-(k+1);omega)
   refine ⟨?_,az,(by
    have bB:av.size f.not≤5:=by (rw [Pm];omega)
    show (acc.and f.not).size≤1+6*(k+2)
    rw [Pn];omega),aw⟩
   show cS _ (acc.and f.not).cells;unfold av.and av.cells;refine .cons aT (.cons aT (.cons aZ.empty (.cons aT (.cons aT (.one ?_)))));simp only [av.kids,ae0,ag7,av.cG];exact aZ.bd
def f' (f:Nat→Bool) (o:Nat):Nat→Nat
 | 0=>0
 | n+1=>f' f o n+(if f (o+n) then 2^n else 0)
theorem ml (f:Nat→Bool) (o:Nat):∀ n,f' f o n<2^n
  | 0=>Nat.one_pos
  | n+1=>by
    have:=ml f o n;rw [f',av1];split<;>omega
theorem oT (f:Nat→Bool) (o:Nat):∀ n i,(f' f o n).testBit i=(decide (i<n)&&f (o+i))
  | 0,i=>by rw [f'];simp
  | n+1,i=>by
    have aa:=ml f o n;have ad:=oT f o n i;rw [f'];cases aX:f (o+n) with
    | false=>
      rw [d7 bc,Nat.add_zero,ad];rcases aq8 i n with h|h|h
      · rw [g8 h,g8 ag]
      · subst h;rw [aX];simp
      · rw [i8 ag,i8 ag]
    | true=>
      rw [f7 C,ar3];rcases aq8 i n with h|h|h
      · rw [Nat.testBit_two_pow_add_gt h,ad,g8 h,g8 ag]
      · subst h
        rw [Nat.testBit_two_pow_add_eq,ad,aX];simp
      · rw [i8 ag,f6]
        exact al0 (aj7 (show 2^n+f' f o n<2^(n+1) by rw [av1];omega) (ah6 ag ag))
theorem EG {f:Nat→Bool} {o n m:Nat} (hm:m<2^n) (h:∀ i,i<n→m.testBit i=f (o+i)):m=f' f o n:=by
 apply an';intro i;rw [oT];by_cases aS:i<n
 ·rw [h i aS,g8 aS,f5]
 ·rw [i8 aS,f6]
  exact al0 (aj7 hm (ah6 ag ag))
def kc (f:Nat→Bool):List Int:=[(f' f 0 64:Int),(f' f 64 64:Int)]
theorem Pp (f g:Nat→Bool) (o n:Nat):f' f o n &&& f' g o n=f' (fun u=>f u&&g u) o n:=
 EG (ak3 av2 (ml f o n)) fun i aS=>by
  rw [am0,oT,oT,g8 aS];rfl
theorem Pq (f g:Nat→Bool) (o:Nat):k6 (f' f o 64) (f' g o 64)=f' (fun u=>f u && !g u) o 64:=
 EG (ak3 av2 (ml f o 64)) fun i aS=>by
  unfold k6;rw [am0,ar7,oT,oT,g8 aS,show (18446744073709551615:Nat)=2^64-1 by decide,ai1,g8 aS];simp
theorem Ps (f:Nat→Bool) (o n i:Nat) (aS:i<n):f' f o n|||2^i=f' (fun u=>f u||u==o+i) o n:=
  EG (aj0 (ml f o n) (ai6 ag aS)) fun j aI=>by
    rw [al7,oT,ak6,g8 aI,f5];congr 1;rw [af0,g6,am5];omega
theorem Pt {f g:Nat→Bool} {o n:Nat} (h:∀ i,i<n→f (o+i)=g (o+i)):f' f o n=f' g o n:=
 EG (ml f o n) fun i aS=>by rw [oT,g8 aS,f5,h i aS]
theorem Z5 {f g:Nat→Bool} (h:kc f=kc g):∀ u,u<128→f u=g u:=by
 unfold kc at h;have aa:f' f 0 64=f' g 0 64:=by have:=(as6.inj h).1;omega
 have ad:f' f 64 64=f' g 64 64:=by have:=(as6.inj (as6.inj h).2).1;omega
 intro u hu;by_cases au:u<64
 ·have a:=oT f 0 64 u
  have b:=oT g 0 64 u;rw [aa,b,g8 au,f5,f5,af6] at a;exact a.symm
 ·have a:=oT f 64 64 (u-64)
  have b:=oT g 64 64 (u-64);rw [ad,b,g8 ag,f5,f5,show 64+(u-64)=u by omega] at a;exact a.symm
theorem B6 {o:Nat} {f:Nat→Bool} (h:∀ u,f u=false):∀ n,f' f o n=0
 | 0=>rfl
 | n+1=>by rw [f',B6 h n,h,d7 bc]
theorem Z6:kc (fun _=>false)=[0,0]:=by
 unfold kc;rw [B6 (fun _=>rfl),B6 (fun _=>rfl)];rfl
def ll (f:Nat→Bool):ah := .agg [.int .u64 (f' f 0 64:Nat),.int .u64 (f' f 64 64:Nat)]
theorem Pu {v:Nat} (ar:v<2^40):ac' .i64 (Int.tdiv (v:Int) (as7 64))=((v / 64:Nat):Int):=by
 rw [show Int.tdiv (v:Int) (as7 64)=((v / 64:Nat):Int) from rfl];exact ev ag ag
theorem Pv (v:Nat):Int.tmod (v:Int) (as7 64)=((v % 64:Nat):Int):=rfl
theorem I7 (m c:Nat):(((m >>> c &&& 1:Nat):Int)==1)=m.testBit c:=DW m c
theorem Z7 (f g:Nat→Bool):aV d0 106 [ll f,ll g] (ll (fun u=>f u&&g u)):=by
 have an:=bE;refine aV.bl al Tryz.func106 C C fun s I=>?_
 unfold ll
 repeat (first|(refine K8 ?_)|refine ae.dZ al I C C C C C C C (fun cB I=>?_))
 refine ae.l7 al 0 C C C C C C C C C C ag ?_;refine er ?_;refine ae.l7 al 0 C C C C C C C C C C ag ?_;refine er ?_;refine ae.bits _ C C C C C C (uZ (ml f 0 64) (ml g 0 64)) ?_;refine ae.l7 al 1 C C C C C C C C C C ag ?_;refine er ?_;refine ae.l7 al 1 C C C C C C C C C C ag ?_;refine er ?_;refine ae.bits _ C C C C C C (uZ (ml f 64 64) (ml g 64 64)) ?_;rw [Pp,Pp];refine ct I ?_;intro I;exact Fin.cE I (p3 C C (bp.get a' I) C) aT
theorem Z8 (f g:Nat→Bool):aV d0 107 [ll f,ll g] (ll (fun u=>f u && !g u)):=by
 have an:=bE;refine aV.bl al Tryz.func107 C C fun s I=>?_
 unfold ll
 repeat (first|(refine K8 ?_)|refine ae.dZ al I C C C C C C C (fun cB I=>?_))
 refine ae.l7 al 0 C C C C C C C C C C ag ?_;refine er ?_;refine ae.l7 al 0 C C C C C C C C C C ag ?_;refine er ?_;refine ae.bits _ C C C C C C (Dr (ml f 0 64) (ml g 0 64)) ?_;refine ae.l7 al 1 C C C C C C C C C C ag ?_;refine er ?_;refine ae.l7 al 1 C C C C C C C C C C ag ?_;refine er ?_;refine ae.bits _ C C C C C C (Dr (ml f 64 64) (ml g 64 64)) ?_;rw [Pq,Pq];refine ct I ?_;intro I;exact Fin.cE I (p3 C C (bp.get a' I) C) aT
theorem Z9 (f:Nat→Bool) (v:Nat) (ar:v<128):aV d0 151 [ll f,.int .i64 (v:Int)] (.bool (f v)):=by
 have an:=bE;refine aV.bl al Tryz.func151 C C fun s I=>?_
 unfold ll;have bn:=Pu (v:=v) ag;have aE:=Pv v;have hm:=Nat.mod_lt v (show 64>0 by omega);by_cases h:v<64
 ·refine bK ?_
  refine ae.l7 al 0 C C C C C C C C C (by rw [bn];omega) ag ?_;refine bK ?_;rw [aE];refine ae.shr _ C C C C C C ag (u0 hm) ?_;refine ae.bits _ C C C C C C (uZ (n:=1) (ak3 (aq7 _ (v % 64)) (ml f 0 64)) ag) ?_;refine ep ?_;refine Fin.cE I C (aZ.of_eq (ae6 ah.bool ?_));rw [I7,oT,g8 hm,f5];congr 1;omega
 ·refine bK ?_
  refine ae.l7 al 1 C C C C C C C C C (by rw [bn];omega) ag ?_;refine bK ?_;rw [aE];refine ae.shr _ C C C C C C ag (u0 hm) ?_;refine ae.bits _ C C C C C C (uZ (n:=1) (ak3 (aq7 _ (v % 64)) (ml f 64 64)) ag) ?_;refine ep ?_;refine Fin.cE I C (aZ.of_eq (ae6 ah.bool ?_));rw [I7,oT,g8 hm,f5];congr 1;omega
theorem Pw (f:Nat→Bool) (v:Nat) (ar:v<128):aV d0 60 [ll f,.int .i64 (v:Int)] (ll (fun u=>f u||u==v)):=by
 have an:=bE;refine aV.bl al Tryz.func60 C C fun s I=>?_
 unfold ll;have bn:=Pu (v:=v) ag;have aE:=Pv v;have hm:=Nat.mod_lt v (show 64>0 by omega);have gX:2^(v % 64)<2^64:=ai6 ag hm;by_cases h:v<64
 ·have jG:=Ps f 0 64 (v % 64) hm
  rw [show (fun u=>f u||u==0+v % 64)=(fun u=>f u||u==v) by funext u;congr 2;omega] at jG;have b6:f' (fun u=>f u||u==v) 64 64=f' f 64 64:=Pt fun i aS=>by
   rw [show (64+i==v)=false by simp;omega,al9]
  rw [b6,← jG]
  repeat (first|(refine sa ?_)|refine ae.jJ I C C C C C C (fun b I=>?_)|refine ae.dZ al I C C C C C C C (fun cB I=>?_)|(refine K9 ?_))
  refine aL.arr al 0 C C C C C C C C C (by rw [bn];omega) ag ?_;refine ct I ?_;intro I;rw [aE];refine aL.shl _ C C C C C C ag (Ds hm) ?_;refine aL.bits _ C C C C C C (wS (ml f 0 64) gX) ?_;refine aL.arr al 0 C C C C C C C C C (by rw [bn];omega) ag ?_;refine ct I ?_;intro I;exact Fin.cE I (p3 C C (bp.get a' I) C) aT
 ·have jG:=Ps f 64 64 (v % 64) hm
  rw [show (fun u=>f u||u==64+v % 64)=(fun u=>f u||u==v) by funext u;congr 2;omega] at jG;have b6:f' (fun u=>f u||u==v) 0 64=f' f 0 64:=Pt fun i aS=>by
   rw [show (0+i==v)=false by simp;omega,al9]
  rw [b6,← jG]
  repeat (first|(refine sa ?_)|refine ae.jJ I C C C C C C (fun b I=>?_)|refine ae.dZ al I C C C C C C C (fun cB I=>?_)|(refine K9 ?_))
  refine aL.arr al 1 C C C C C C C C C (by rw [bn];omega) ag ?_;refine ct I ?_;intro I;rw [aE];refine aL.shl _ C C C C C C ag (Ds hm) ?_;refine aL.bits _ C C C C C C (wS (ml f 64 64) gX) ?_;refine aL.arr al 1 C C C C C C C C C (by rw [bn];omega) ag ?_;refine ct I ?_;intro I;exact Fin.cE I (p3 C C (bp.get a' I) C) aT
def B7 (p:bN) (n:Int) (l:List av) (vs:List Nat):List (ah×ah):=vs.map fun v:Nat=>(.int .i64 (v:Int),bj (dp p n l v))
def ku (vs:List Nat):List ah:=vs.map fun v:Nat => .int .i64 (v:Int)
theorem Px (g:Nat→ah) (x:ah) (v:Nat):∀ vs:List Nat,v∉vs→lT (vs.map fun u:Nat=>(.int .i64 (u:Int),g u)) (.int .i64 (v:Int)) x=some ((vs.map fun u:Nat=>(.int .i64 (u:Int),g u))++[(.int .i64 (v:Int),x)])
  | [],_=>rfl
  | u::r,h=>by
    have hu:((v:Int)==(u:Int))=false:=by
      rw [beq_eq_false_iff_ne];intro he;exact h (by rw [show v=u by omega];exact i6)
    rw [ae0,lT];simp only [ke,ag5,hu,Px g x v r (fun hm=>h (i0 _ hm)),ab']
theorem EH (g:Nat→ah) (v:Nat):∀ vs:List Nat,i' (vs.map fun u:Nat=>(.int .i64 (u:Int),g u)) (.int .i64 (v:Int))=some (if vs.contains v then some (g v) else none)
  | []=>rfl
  | u::r=>by
    rw [ae0,i'];by_cases h:u=v
    · subst h
      simp [ke]
    · have hu:((v:Int)==(u:Int))=false:=by
        rw [beq_eq_false_iff_ne];omega
      simp only [ke,ag5,hu,EH g v r,List.contains_cons];rw [show (v==u)=false by rw [beq_eq_false_iff_ne];omega,ah2]
theorem I8 {c:Nat} (h:c≤7):ac' .i64 (1*2^(min (c:Int).toNat (am6 .i64)))=((2^c:Nat):Int):=by
 have aa:min (c:Int).toNat (am6 .i64)=c:=by simp [am6];omega
 rw [aa];have ad:(1*2^c:Int)=((2^c:Nat):Int):=by push_cast;omega
 have aj:2^c<2^63:=ai6 ag ag;rw [ad,GA aj]
def qt (w:bz) (l:List av) (v:Nat):List Nat:=(ah8 v).filter (pz w l)
theorem Z' (w:bz) (l:List av) (v:Nat):qt w l (v+1)=qt w l v++(if pz w l v then [v] else []):=by
 unfold qt;rw [at2,at',al5];rfl
theorem aaa (w:bz) (l:List av) (v:Nat):v∉qt w l v:=fun h=>by
 have:=aj2.1 (ag3.1 h).1;omega
theorem aab (w:bz) (l:List av) (v:Nat):(qt w l v).length≤v:=by
 have:=aj8 (pz w l) (ah8 v);rw [au3] at this;exact this
theorem I9 (p:bN) (aF:gx p) (ec:fX p=true) (n:Int) (l:List av) (an cC cd:Nat) (gB:l.length≤7) (cx:kr (bY p) l) (ez:l.Nodup) (fJ:BN p n l) :
  bI d0 59 [.ptr cd 0] [ey p n (ei l) (.aG 0 [] .nil) an cC cd,(.own an,.map [])] (fun o K=>o = .ret (.cr [])∧K=[ey p n (ei l) (.aG 1 (ku (h9 (bY p) l)) .bd) an cC cd,(.own an,.map (B7 p n l (h9 (bY p) l)))]):=by
 have oo:bx=1099511627776:=rfl;have xT:2^l.length≤2^7:=ah6 ag gB;have xm:=fun vs v h=>Po p ec n l vs an cC cd gB cx ez v h
 have EI:=fun vs v h=>Oc p aF ec n l vs an cC cd gB cx fJ v h
 have w8:h9 (bY p) l=qt (bY p) l (2^l.length):=rfl;refine bI.bl al Tryz.func59 C C fun s I=>?_
 unfold ey eu ei at *;refine ct I ?_;intro I;refine ae.shl ((2^l.length:Nat):Int) C C C C C C ag (by rw [f8];exact I8 gB) ?_;refine eh ?_;refine af.jw I 3 1 0 fun I=>?_
 refine af.rz I (eu p n (ei l) (.aG 1 (ku []) .nil) an cC) (kb:=cd) a' (by
  unfold eu ei
  repeat (first|exact cS.nil|refine cS.cons (by first|exact aT|exact aZ.nil h4) ?_)) (fun I=>?_)
 unfold eu ei at I ⊢;refine af.ck [0,8] C I (σ:=Nat×bV) (fun q=>[(9,.int .i64 (q.1:Int))]) (fun q=>[(q.2,.row 3 1 (qt (bY p) l q.1).length),ey p n (ei l) (.aG 1 (ku (qt (bY p) l q.1)) q.2) an cC cd,(.own an,.map (B7 p n l (qt (bY p) l q.1)))]) (fun q=>q.1≤2^l.length) (fun q=>2^l.length-q.1) (0,.nil)
  (g9 _) (cK C) xM ?_
 rintro ⟨v,gm⟩ ar I;simp only [ey,eu,ei,ku,B7] at ar I ⊢;refine cf ?_;refine af.cond C (fun az=>?_) (fun a7=>?_);rotate_left
 ·have a7:v=2^l.length:=Nat.le_antisymm ar (Int.ofNat_le.1 (Int.not_lt.1 (of_decide_eq_false a7)))
  subst a7;rw [w8]
  refine af.rz I (eu p n (ei l) (.aG 1 (ku (qt (bY p) l (2^l.length))) .bd) an cC) (kb:=cd) a' (by
   unfold eu ei
   repeat (first|exact cS.nil|refine cS.cons (by first|exact aT|exact aZ.bd) ?_)) (fun I=>?_)
  refine ew ?_;exact Fin.bC I C aT xM ⟨rfl,rfl⟩
 have az:v<2^l.length:=aD4.1 (aj1 az);have aac:=fun vs=>xm vs v ag
 have aad:=fun vs=>EI vs v ag
 have EJ:=Z' (bY p) l v;have fz:=aab (bY p) l v;refine bK ?_;refine ae.b4 rfl rfl rfl rfl rfl (aac (.aG 1 ((qt (bY p) l v).map fun v:Nat => .int .i64 (v:Int)) gm)) I ba ?_ (fun _ _ ⟨h,_⟩ _=>by cases h);rintro _ _ ⟨⟨⟩,rfl⟩ I;simp only [f0,ab'] at I ⊢;cases w9:pz (bY p) l v with
 | false=>
  rw [w9,d7 bc,d9] at EJ;refine bK ?_;exact bD.mk (v+1,gm) I az cA (by simp only [EJ];exact ba) (by show 2^l.length-(v+1)<2^l.length-v;omega)
 | true=>
  rw [w9,f7 C] at EJ;refine ct I ?_;intro I;refine ae.ho al I C C C C C C C eH C C C C C C C C a' ir lC ag (fun bT I=>?_);refine ct I ?_;intro I;have aae:=aad (.aG 1 ((qt (bY p) l v).map (fun v:Nat=>ah.int .i64 (v:Int))++[.int .i64 (v:Int)]) (.own bT));have AI:=Px (fun v=>bj (dp p n l v)) (bj (dp p n l v)) v _ (aaa (bY p) l v);refine af.qV (dE [(cd,_)]) al mixed C (bq.run (dE.one (bp.get a' I)) C ?_);refine bq.ov 3 al (dE.one (bp.get a' I)) C C C C C C C C (fun _ h=>dE.fst h) b5 ?_;refine bq.run (dE.one (bp.get a' I)) C ?_;refine bq.b4 rfl rfl rfl rfl rfl rfl rfl aae I ba (fun _ _ h I=>by obtain ⟨-,rfl⟩:=h;exact .inl (dE.one (bp.get .here I))) ?_ (fun _ _ ⟨h,_⟩ _=>by cases h);rintro _ _ ⟨⟨⟩,rfl⟩ I;simp only [f0,ab'] at I ⊢;refine bq.run (dE.one (bp.get a' I)) C ?_;refine bq.nd 8 al I C C C C (.inl C) C C C C C C a' C AI (fun _ => .inr C) (fun I=>?_);refine bf.done C ?_;refine fV ?_;exact bD.mk (v+1,.own bT) I az cA (by simp only [EJ,ae1,ae0,ag7,f9,i5,ag0];exact ba) (by show 2^l.length-(v+1)<2^l.length-v;omega)
theorem aaf (l:List av) (f:av):(j8 l f).any (fun y=>hv y f)=true:=by
 unfold j8;split
 ·assumption
 ·rw [aB4];simp [Pc]
theorem aag {l:List av} {f x:av} (h:l.any (fun y=>hv y x)=true):(j8 l f).any (fun y=>hv y x)=true:=by
 unfold j8;split
 ·exact h
 ·rw [aB4,h];rfl
theorem I' {x:av}:∀ (cZ l:List av),l.any (fun y=>hv y x)=true→(cZ.foldl j8 l).any (fun y=>hv y x)=true
 | [],_,h=>h
 | a::r,l,h=>I' r _ (aag h)
theorem Py {x:av}:∀ (cZ l:List av),x∈cZ→(cZ.foldl j8 l).any (fun y=>hv y x)=true
  | a::r,l,h=>by
    rw [ah4];rcases ae8.1 h with rfl|h
    · exact I' r _ (aaf l x)
    · exact Py r _ h
theorem Pz {gen:Int} {x:av}:∀ (ms:List gN) (l:List av),l.any (fun y=>hv y x)=true→(ms.foldl (ld gen) l).any (fun y=>hv y x)=true
 | [],_,h=>h
 | m::r,l,h=>Pz r _ (by unfold ld;split;exact I' _ _ h;exact h)
theorem PA {gen:Int} {x:av}:∀ (ms:List gN) (l:List av) (m:gN),m∈ms→m.gen=gen→x∈kp m.fact→(ms.foldl (ld gen) l).any (fun y=>hv y x)=true
  | a::r,l,m,h,aq,ab=>by
    rw [ah4];rcases ae8.1 h with rfl|h
    · exact Pz r _ (by unfold ld;rw [f7 aq];exact Py _ _ ab)
    · exact PA r _ m h aq ab
theorem aah (p:bN) (gen:Int):BN p gen (cy p gen):=fun m hm aq x ab=>PA p.methods [] m hm aq ab
theorem aai {p:bN} {gen:Int} (h:fq p gen=0):fX p=true∧lf p gen=true∧(cy p gen).length≤7:=by
 unfold fq at h;split at h
 ·rename_i aa
  rw [f4] at aa;split at h
  ·exact ⟨aa.1,aa.2,by assumption⟩
  ·omega
 ·omega
theorem Ja {w:bz} {l:List av} {v:Nat} (h:v∈h9 w l):v<2^l.length:=by
 unfold h9 at h;exact aj2.1 (ag3.1 h).1
theorem EK (w:bz) (l:List av):(h9 w l).length≤2^l.length:=by
 unfold h9;have:=aj8 (pz w l) (ah8 (2^l.length));rw [au3] at this;exact this
def Jb (p:bN) (n:Int):ah := .cr [if fq p n=0 then .aG 1 (ku (h9 (bY p) (cy p n))) .bd else .aG 0 [] .nil,.int .i64 (fq p n)]
def Jc (p:bN) (n v:Int):Bool:=decide (0≤v)&&(decide (v<((2^(cy p n).length:Nat):Int))&&pz (bY p) (cy p n) v.toNat)
def B8 (p:bN) (n v:Int):Int:=if fq p n=0 then (if Jc p n v then 0 else 5) else fq p n
def Jd (p:bN) (n v:Int):ah := .cr [if B8 p n v=0 then bj (dp p n (cy p n) v.toNat) else .aG 0 [] .nil,.int .i64 (B8 p n v)]
theorem rS {p:bN} {n:Int} (he:fq p n=0):fX p=true∧(cy p n).length≤7∧kr (bY p) (cy p n)∧(cy p n).Nodup∧BN p n (cy p n):=by
 obtain ⟨aa,-,ad⟩:=aai he;exact ⟨aa,ad,(N8 aa n).1,ZT p n,aah p n⟩
theorem aaj (p:bN) (aF:gx p) (n:Int):aV d0 27 [cD p,.int .i64 n] (Jb p n):=by
 have an:=bE;refine aV.bl al Tryz.func27 C C fun s I=>?_
 have aO:=BJ p aF n;unfold Jb;unfold cD cI at *;refine dS ?_;refine ae.b4 rfl rfl rfl rfl rfl aO I .nil ?_ (fun _ _ h _=>by rcases h with ⟨_,_,_,_,h,_⟩|⟨_,⟨_,h⟩,_⟩<;>cases h);rintro _ _ (⟨he,cd,an,cC,⟨⟩,rfl⟩|⟨he,⟨v,⟨⟩⟩,rfl⟩) I
 ·rw [he,f7 C]
  obtain ⟨ec,gB,cx,ez,fJ⟩:=rS he;have lL:=I9 p aF ec n (cy p n) an cC cd gB cx ez fJ;simp only [ab',f0] at I ⊢;unfold ey eu ei at *;refine bK ?_;refine ae.b4 rfl rfl rfl rfl rfl lL I ba ?_ (fun _ _ ⟨h,_⟩ _=>by cases h);rintro _ _ ⟨⟨⟩,rfl⟩ I;simp only [ab',f0] at I ⊢;refine ct I ?_;intro I;exact br I
 ·rw [d7 he]
  simp only [f0] at I ⊢;refine et ?_;refine af.cond C (fun _=>?_) (fun h=>absurd hx he);refine gE ?_;exact br I
theorem PB (p:bN) (aF:gx p) (n v:Int):aV d0 29 [cD p,.int .i64 n,.int .i64 v] (Jd p n v):=by
 have an:=bE;refine aV.bl al Tryz.func29 C C fun s I=>?_
 have aO:=BJ p aF n;have hm:B8 p n v=if fq p n=0 then (if Jc p n v then 0 else 5) else fq p n:=rfl
 unfold Jd;unfold cD cI at *;refine dS ?_;refine ae.b4 rfl rfl rfl rfl rfl aO I .nil ?_ (fun _ _ h _=>by rcases h with ⟨_,_,_,_,h,_⟩|⟨_,⟨_,h⟩,_⟩<;>cases h);rintro _ _ (⟨he,cd,an,cC,⟨⟩,rfl⟩|⟨he,⟨v,⟨⟩⟩,rfl⟩) I
 ·obtain ⟨ec,gB,cx,ez,fJ⟩:=rS he
  have xT:2^(cy p n).length≤2^7:=ah6 ag gB;rw [f7 he] at hm;have ar:Jc p n v=(decide (0≤v)&&(decide (v<((2^(cy p n).length:Nat):Int))&&pz (bY p) (cy p n) v.toNat)):=rfl;simp only [ab',f0] at I ⊢;unfold eu ei at I ⊢;refine bK ?_;by_cases aa:v<0
  ·refine ae.dK 23 C (g8 aa) ?_
   rw [ar,show decide (0≤v)=false by simp;omega,f6,d7 bc] at hm;rw [hm,d7 bc];refine fe ?_;exact br I
  refine ae.dh 23 C (i8 aa) ?_;obtain ⟨u,rfl⟩:∃ u:Nat,v=u:=⟨v.toNat,by omega⟩;rw [g8 (Int.natCast_nonneg u),f5,i9] at ar;rw [i9];refine ct I ?_;intro I;refine ae.shl ((2^(cy p n).length:Nat):Int) C C C C C C ag (by rw [f8];exact I8 gB) ?_;refine er ?_;by_cases ad:(u:Int)<((2^(cy p n).length:Nat):Int);rotate_left
  ·refine ae.dK 33 C (g8 (Int.not_lt.1 ad)) ?_
   rw [ar,i8 ad,f6,d7 bc] at hm;rw [hm,d7 bc];refine fe ?_;exact br I
  refine ae.dh 33 C (i8 (Int.not_le.2 ad)) ?_;have aj:u<2^(cy p n).length:=aD4.1 ad;rw [g8 ad,f5] at ar;have xm:=Po p ec n (cy p n) (.aG 0 [] .nil) an cC cd gB cx ez u ag;have EI:=Oc p aF ec n (cy p n) (.aG 0 [] .nil) an cC cd gB cx fJ u ag;unfold ey eu ei at xm EI;refine er ?_;refine ae.b4 rfl rfl rfl rfl rfl xm I ba ?_ (fun _ _ ⟨h,_⟩ _=>by cases h);rintro _ _ ⟨⟨⟩,rfl⟩ I;simp only [ab',f0] at I ⊢;cases aD:pz (bY p) (cy p n) u with
  | false=>
   rw [ar,aD,d7 bc] at hm;rw [hm,d7 bc];refine fe ?_;exact br I
  | true=>
   rw [ar,aD,f7 C] at hm;rw [hm,f7 C];refine bK ?_;refine ae.b4 rfl rfl rfl rfl rfl EI I ba ?_ (fun _ _ ⟨h,_⟩ _=>by cases h);rintro _ _ ⟨⟨⟩,rfl⟩ I;simp only [ab',f0] at I ⊢;refine ep ?_;exact br I
 ·rw [d7 he] at hm
  rw [hm,d7 he];simp only [f0] at I ⊢;refine bK ?_;refine af.cond C (fun _=>?_) (fun h=>absurd hx he);refine jK ?_;exact br I
def qu (p:bN) (n:Int) (l:List av) (an cC cd:Nat) (vs:List Nat):bb:=[ey p n (ei l) (.aG 1 (ku vs) .bd) an cC cd,(.own an,.map (B7 p n l vs))]
def aak:Option Nat→Int
 | none => -1
 | some v=>v
theorem PC (g:Nat→ah):∀ vs:List Nat,i' (vs.map fun u:Nat=>(.int .i64 (u:Int),g u)) (.int .i64 (-1))=some none
  | []=>rfl
  | u::r=>by
    rw [ae0,i'];have hu:((-1:Int)==(u:Int))=false:=by rw [beq_eq_false_iff_ne];omega
    simp only [ke,ag5,hu,PC g r]
def aal (h:Nat→List Int) (vs rest:List Nat):Option Nat→Prop
 | none=>vs=rest
 | some v=>mV h vs=rest.all (fun u=>h u==h v)∧firstM h vs=h v
theorem aam (p:bN) (n:Int) (l:List av) (an cC cd:Nat) (vs:List Nat) (eM:∀ v∈vs,v<128) (fz:vs.length≤128) (hV:p.methods.length≤16) (q:Nat→Bool) :
    bI d0 105 [.ptr cd 0,ll q] (qu p n l an cC cd vs) (fun o K=>o = .ret (if mV (dp p n l) (vs.filter q) then .cr [bj (firstM (dp p n l) (vs.filter q)),.bool true] else .cr [.aG 0 [] .nil,.bool false])∧K=qu p n l an cC cd vs):=by
  have oo:bx=1099511627776:=rfl;have ua:=fun v h=>Z9 q v h
  have PD:=fun v=>zb n l v p.methods 0
  refine bI.bl al Tryz.func105 C C fun s I=>?_
  unfold qu ey eu ei at *;refine hq I ?_;intro I;refine af.ck [0,3,12,13] C I (σ:=Nat×Option Nat) (fun x=>[(14,.int .i64 (x.1:Int)),(6,.int .i64 (aak x.2))]) (fun _=>qu p n l an cC cd vs) (fun x=>x.1≤vs.length∧(∀ v,x.2=some v→v∈vs)∧aal (dp p n l) (vs.filter q) ((vs.drop x.1).filter q) x.2) (fun x=>vs.length-x.1) (0,none)
    ⟨g9 _,(fun _ h=>by cases h),rfl⟩ (cK rfl) (by simp only [qu,ey,eu,ei];exact ba) ?_
  rintro ⟨j,fst⟩ ⟨aI,aX,aw⟩ I;simp only [qu,ey,eu,ei] at aI aX aw I ⊢;refine cf ?_;refine af.cond C (fun az=>?_) (fun a7=>?_);rotate_left
  · have a7:j=vs.length:=by simp [ku] at a7;omega
    rw [eE ag,at4] at aw;cases fst with
    | none=>
      have aw:vs.filter q=[]:=aw;rw [aw,mV,firstM,f7 C];have aq:=PC (fun v=>bj (dp p n l v)) vs;refine ct I ?_;intro I;refine ae.jv al I C C C C C C C C C C a' C aq C ?_;refine ep ?_;exact Fin.bC I C (aZ.cr (.cons aZ.empty (.cons aT .nil))) (aJ.all _) ⟨rfl,rfl⟩
    | some v=>
      obtain ⟨aa,ad⟩:=aw;rw [aa,ad,ap2,f7 C];have aq:=EH (fun v=>bj (dp p n l v)) v vs;rw [f7 (by simpa using aX v C)] at aq;refine ct I ?_;intro I;refine ae.jv al I C C C C C C C C C C a' C aq C ?_;refine ep ?_;exact Fin.bC I C aT (aJ.all _) ⟨rfl,rfl⟩
  have az:j<vs.length:=by simpa [ku] using az
  obtain ⟨x,ab,ch⟩:=b7 (f:=fun v:Nat=>ah.int .i64 (v:Int)) az;have xU:=d6 ab;have aan:=eM x xU;have cN:=ua x aan;rw [drop_cons ab,al5] at aw;unfold ku at *;refine c5 ?_;cases bn:q x with
  | false=>
    rw [bn,d7 bc] at aw;refine bK ?_;exact bD.mk (j+1,fst) I ⟨az,aX,aw⟩ cA ba zk
  | true=>
    rw [bn,f7 C] at aw;cases fst with
    | none=>
      refine bK ?_
      exact bD.mk (j+1,some x) I ⟨az,(fun v h=>by cases h;exact xU),by
        have aw:vs.filter q=_:=aw
        refine ⟨?_,?_⟩
        · rw [aw];rfl
        · rw [aw];rfl⟩ cA ba zk
    | some v=>
      obtain ⟨aa,ad⟩:=aw;rw [al8] at aa;have aq:=fun u hu=>by
        have:=EH (fun v=>bj (dp p n l v)) u vs;rw [f7 (by simpa using hu)] at this;exact this
      have BH:=aq x xU;have C':=aq v (aX v C);have heq:=wU (dp p n l x) (dp p n l v) (by have:=PD x;unfold dp;omega) (by have:=PD v;unfold dp;omega);cases aD:dp p n l x==dp p n l v with
      | false=>
        rw [aD] at heq aa;rw [aa,f6,d7 bc];refine hq I ?_;intro I;refine aL.jv al I C C C C C C C C C C a' C BH C ?_;refine ct I ?_;intro I;refine aL.jv al I C C C C C C C C C C a' C C' C ?_;refine cl ?_;exact Fin.bC I C aT (aJ.all _) ⟨rfl,rfl⟩
      | true=>
        rw [aD] at heq aa;rw [f5] at aa;refine hq I ?_;intro I;refine aL.jv al I C C C C C C C C C C a' C BH C ?_;refine ct I ?_;intro I;refine aL.jv al I C C C C C C C C C C a' C C' C ?_;refine cl ?_;exact bD.mk (j+1,some v) I ⟨az,aX,aa,ad⟩ cA ba zk
theorem aao (fv:ah) (xs:List Int) (K:bb) (q:Int→Bool) (aC:xs.length<bx) (h:∀ x∈xs,ds d0 fv [bg x] K (fun o aQ=>o = .ret (.bool (q x))∧aQ=K)) :
  bI d0 40 [.aG 1 (xs.map bg) .bd,fv] K (fun o aQ=>o = .ret (.bool (xs.any q))∧aQ=K):=by
 have:=LI fv xs (fun _=>K) (fun j=>match xs[j]? with|some x=>q x|none=>false) aC (fun j x ab _=>by rw [ab];exact h x (d6 ab));refine bI.mono this ?_;rintro o aQ (⟨rfl,rfl,aa⟩|⟨j,aa,ad,aj,rfl,rfl⟩)
 ·have:xs.any q=false:=by
   rw [ak8];intro x ab;obtain ⟨i,aS⟩:=af' ab;have:=aa i (se aS);rw [aS] at this;simpa using this
  rw [this];exact ⟨rfl,rfl⟩
 ·have ab:=d8 aa
  rw [ab] at ad;rw [af4.2 ⟨_,d6 ab,ad⟩];exact ⟨rfl,rfl⟩
def ui (p:bN) (n:Int) (l:List av) (g:List bs) (v:Nat):Bool:=(g.getD (leads g v).1.toNat default).ms==dp p n l v
theorem aap (p:bN) (n:Int) (l:List av) (an cC cd:Nat) (vs:List Nat) (vu:p.methods.length≤16) (g:List bs) (aq:fF g=true) (v:Nat) (ar:v∈vs) (aaq:v<2^63) :
  ds d0 (.func 121 [] [.bA [e7 g] 0,.bA [.ptr cd 0] 0]) [.int .i64 (v:Int)] (qu p n l an cC cd vs) (fun o K=>o = .ret (.bool (!ui p n l g v))∧K=qu p n l an cC cd vs):=by
 have oo:bx=1099511627776:=rfl;have mg:=Nf g aq v aaq;obtain ⟨j,x,aa,ad,-⟩:=Nh aq v;have hV:=zb n l v p.methods 0;have hH:x.ms.length≤16:=by
  have aB:=tM aq ad;by_cases aO:x.atom = -1
  ·exact ((mN aO).1 aB).2.2.1
  ·have:=((kk aO).1 aB).2.2.2.2.2.2
   omega
 have heq:=wU x.ms (dp p n l v) ag (by unfold dp;omega);have wV:ui p n l g v=(x.ms==dp p n l v):=by
  unfold ui;rw [aa,i9,d5,ad];rfl
 have rG:=EH (fun v=>bj (dp p n l v)) v vs;rw [f7 (by simpa using ar)] at rG;have ch:(g.map eR)[j]? = some (eR x):=by rw [ae7,ad];rfl
 rw [aa] at mg;refine ds.fm (first:=[]) (cap:=[.bA [e7 g] 0,.bA [.ptr cd 0] 0]) ?_;refine bI.bl al Tryz.func121 C C fun s I=>?_
 unfold qu ey eu ei e7 at *;unfold eR gO at ch;rw [wV];cases aD:x.ms==dp p n l v with
 | true=>
  rw [aD] at heq;refine hq I ?_;intro I;refine aL.jv al I C C C C C C C C C C a' C rG C ?_;refine c5 ?_;exact Fin.bC I C aT (aJ.all _) ⟨rfl,rfl⟩
 | false=>
  rw [aD] at heq;refine hq I ?_;intro I;refine aL.jv al I C C C C C C C C C C a' C rG C ?_;refine c5 ?_;exact Fin.bC I C aT (aJ.all _) ⟨rfl,rfl⟩
theorem PE (p:bN) (aF:gx p) (ec:fX p=true) (n:Int) (l:List av) (an cC cd:Nat) (gB:l.length≤7) (cx:kr (bY p) l) (ez:l.Nodup) (fJ:BN p n l) (g:List bs) (aq:fF g=true) :
    bI d0 73 [.ptr cd 0,e7 g] [ey p n (ei l) (.aG 0 [] .nil) an cC cd,(.own an,.map [])] (fun o K=>o = .ret (.bool (g.all (fun x=>decide (x.atom<(l.length:Int)))&&(h9 (bY p) l).all (ui p n l g)))∧∃ Bp m,K=[ey p n (ei l) Bp an cC cd,(.own an,.map m)]):=by
  have oo:bx=1099511627776:=rfl;have xT:2^l.length≤2^7:=ah6 ag gB;obtain ⟨ns,kK⟩:=tN aq;have lL:=I9 p aF ec n l an cC cd gB cx ez fJ;have fz:=EK (bY p) l;have eM:∀ v∈h9 (bY p) l,v<2^l.length:=fun v h=>Ja h
  have vu:=(vt ec).1;generalize h9 (bY p) l=vs at *
  have n6:=aao (.func 121 [] [.bA [e7 g] 0,.bA [.ptr cd 0] 0]) (vs.map fun v:Nat=>(v:Int)) (qu p n l an cC cd vs) (fun z => !ui p n l g z.toNat) ve (fun z bG=>by
    obtain ⟨v,ar,rfl⟩:=af8.1 bG
    have:=eM v ar
    exact aap p n l an cC cd vs vu g aq v ar ag)
  have EL:(vs.map fun v:Nat=>(v:Int)).map bg=ku vs:=by rw [at9];rfl
  have aar:(vs.map fun v:Nat=>(v:Int)).any (fun z => !ui p n l g z.toNat) = !vs.all (ui p n l g):=by
    rw [List.any_map,List.all_eq_not_any_not,ax5];rfl
  rw [EL,aar] at n6;refine bI.bl al Tryz.func73 C C fun s I=>?_
  unfold qu ey eu ei e7 at *;refine hp ?_;refine af.ck [2,3,7,8] C I (σ:=Nat) (fun j=>[(9,.int .i64 (j:Int))]) (fun _=>[ey p n (ei l) (.aG 0 [] .nil) an cC cd,(.own an,.map [])]) (fun j=>j≤g.length∧g.all (fun x=>decide (x.atom<(l.length:Int)))=(g.drop j).all (fun x=>decide (x.atom<(l.length:Int)))) (fun j=>g.length-j) 0 ⟨g9 _,rfl⟩ (cK C) xM ?_;rintro j ⟨aI,aw⟩ I;simp only [ey,eu,ei] at aI aw I ⊢;refine cf ?_;refine af.cond C (fun az=>?_) (fun a7=>?_);rotate_left
  · have a7:j=g.length:=by simp at a7;omega
    rw [eE ag,ap2] at aw;rw [aw,f5];refine bK ?_;refine ae.b4 rfl rfl rfl rfl rfl lL I ba ?_ (fun _ _ ⟨h,_⟩ _=>by cases h);rintro _ _ ⟨⟨⟩,rfl⟩ I;simp only [ab',f0] at I ⊢;refine ct I ?_;intro I;refine ae.b4 rfl rfl rfl rfl rfl n6 I ba ?_ (fun _ _ ⟨h,_⟩ _=>by cases h);rintro _ _ ⟨⟨⟩,rfl⟩ I;simp only [ab',f0] at I ⊢;refine ep ?_;exact Fin.bC I C (aZ.of_eq bc) (aJ.all _) ⟨rfl,_,_,rfl⟩
  have az:j<g.length:=by simpa using az
  obtain ⟨x,ab,ch⟩:=b7 (f:=eR) az;rw [drop_cons ab,al8] at aw;unfold eR gO bj at ch;refine K6 I ?_;intro I;refine af.cond C (fun aD=>?_) (fun aD=>?_)
  · rw [show decide (x.atom<(l.length:Int))=false by simp at aD ⊢;omega,f6] at aw
    rw [aw,f6];refine jK ?_;exact Fin.bC I C aT (aJ.all _) ⟨rfl,_,_,rfl⟩
  · rw [show decide (x.atom<(l.length:Int))=true by simp at aD ⊢;omega,f5] at aw
    refine fV ?_;exact bD.mk (j+1) I ⟨az,aw⟩ cA ba uU
theorem aas (p:bN) (n:Int):fq p n=0∨fq p n=2∨fq p n=3:=by
 unfold fq;split
 ·split
  ·exact .inl C
  ·exact .inr (.inr C)
 ·exact .inr (.inl C)
theorem EM (p:bN) (aF:gx p) (n:Int) (g:List bs) (aq:g.length<bx):aV d0 52 [cD p,.int .i64 n,e7 g] (.cr [.bool (j9 p n g).1,.int .i64 (j9 p n g).2]):=by
 have an:=bE;refine aV.bl al Tryz.func52 C C fun s I=>?_
 have aO:=BJ p aF n;have aX:=DA g aq;have hm:j9 p n g=if fq p n=2 || !fF g then (false,2) else if fq p n=0 then (kO p n g,0) else (false,fq p n):=rfl
 unfold cD cI e7 at *;refine dS ?_;refine ae.b4 rfl rfl rfl rfl rfl aO I .nil ?_ (fun _ _ h _=>by rcases h with ⟨_,_,_,_,h,_⟩|⟨_,⟨_,h⟩,_⟩<;>cases h);rintro _ _ (⟨he,cd,an,cC,⟨⟩,rfl⟩|⟨he,⟨v,⟨⟩⟩,rfl⟩) I
 ·rw [he] at hm
  simp only [ab',f0] at I ⊢;cases gk:fF g with
  | false=>
   rw [gk] at aX hm;rw [hm];refine cl ?_;exact br I
  | true=>
   rw [gk] at aX hm;have hm:j9 p n g=(kO p n g,0):=hm;rw [hm];obtain ⟨ec,gB,cx,ez,fJ⟩:=rS he;have aE:=PE p aF ec n (cy p n) an cC cd gB cx ez fJ g gk;have zT:(g.all (fun x=>decide (x.atom<((cy p n).length:Int)))&&(h9 (bY p) (cy p n)).all (ui p n (cy p n) g))=kO p n g:=rfl;rw [zT] at aE;unfold ey e7 at aE;refine cl ?_;refine ae.b4 rfl rfl rfl rfl rfl aE I ba ?_ (fun _ _ ⟨h,_⟩ _=>by cases h);rintro _ _ ⟨⟨⟩,Bp,m,rfl⟩ I;refine ep ?_;exact br I
 ·simp only [f0] at I ⊢
  rcases (aas p n).resolve_left he with e|e
  ·rw [e] at hm ⊢
   have hm:j9 p n g=(false,2):=hm;rw [hm];refine et ?_;exact br I
  ·rw [e] at hm ⊢
   cases gk:fF g with
   | false=>
    rw [gk] at aX hm;have hm:j9 p n g=(false,2):=hm;rw [hm];refine cl ?_;exact br I
   | true=>
    rw [gk] at aX hm;have hm:j9 p n g=(false,3):=hm;rw [hm];refine cl ?_;exact br I
theorem aat (v:Int×Int) (n:Int):aV d0 160 [eK v,.int .i64 n] (.bool (ff n v)):=by
 have an:=bE;refine aV.bl al Tryz.func160 C C fun s I=>?_
 unfold eK
 repeat' (first|(with_reducible first|apply af.seq|apply b0|apply fU|apply fp|apply gZ|apply af.ret|apply af.skip|apply af.block)|refine cY C ?_|refine af.cH ?_|refine ae.nil ?_|refine cF C ?_|refine ae.skip C C C ?_|(fail_if_success refine ae.same true C ?_);(fail_if_success refine ae.same false C ?_);refine ae.gY C C (fun h=>?_) (fun h=>?_)|refine af.cond C (fun h=>?_) (fun h=>?_))
 all_goals (refine Fin.cE I C (aZ.of_eq (ae6 ah.bool ?_));clear I;simp only [ff,j3];grind)
theorem aau (fv:ah) (q:Int→Bool) (xs:List Int) (aC:xs.length<bx) (h:∀ x∈xs,ej d0 fv [bg x] (.bool (q x))):aV d0 161 [.aG 1 (xs.map bg) .bd,fv] (.aG 1 ((xs.filter q).map bg) .bd):=by
 have an:=bE;refine aV.bl al Tryz.func161 C C fun s I=>?_
 refine hp ?_;refine af.jw I 3 1 0 fun I=>?_
 refine af.ck [0,1,8,9] C I (σ:=Nat×List Int×bV) (fun p=>[(10,.int .i64 (p.1:Int)),(5,.aG 1 (p.2.1.map bg) p.2.2)]) (fun p=>[(p.2.2,.row 3 1 p.2.1.length)]) (fun p=>p.1≤xs.length∧p.2.1.length≤p.1∧xs.filter q=p.2.1++(xs.drop p.1).filter q) (fun p=>xs.length-p.1) (0,[],.nil)
  ⟨g9 _,g7 _,rfl⟩ ⟨⟨_,rfl,aT⟩,⟨_,rfl,aZ.nil h4⟩,trivial⟩ ba ?_
 rintro ⟨j,out,gm⟩ ⟨aI,gd,aw⟩ I;simp only at aI gd aw I ⊢;refine cf ?_;refine af.cond C (fun az=>?_) (fun a7=>?_);rotate_left
 ·have a7:j=xs.length:=by simp at a7;omega
  rw [eE ag,at4,d9] at aw;rw [aw];have b9:=Hd (out.map bg) gm;refine c5 ?_;exact Fin.cE I C aZ.bd
 have az:j<xs.length:=by simpa using az
 obtain ⟨x,ab,ch⟩:=b7 (f:=bg) az;have ar:=h x (d6 ab);rw [drop_cons ab,al5] at aw
 try rw [bg] at ar ch
 refine c5 ?_;cases bn:q x with
 | true=>
  rw [bn] at aw ar;rw [f7 C] at aw;refine bK ?_;refine ae.ho al I C C C C C C C eH C C C C C C C C a' ir lC ag (fun bT I=>?_);refine hC ?_;exact bD.mk (j+1,out++[x],.own bT) I ⟨az,by simp;omega,by rw [aw];simp⟩ yr O2 sb
 | false=>
  rw [bn] at aw ar;rw [d7 bc] at aw;refine ki ?_;exact bD.mk (j+1,out,gm) I ⟨az,by show out.length≤j+1;omega,aw⟩ cA ba sb
theorem aav (fv:ah) (q:(Int×Int)→Bool) (xs:List (Int×Int)) (aC:xs.length<bx) (h:∀ x∈xs,ej d0 fv [eK x] (.bool (q x))):aV d0 158 [.aG 2 (xs.map eK) .bd,fv] (.aG 2 ((xs.filter q).map eK) .bd):=by
 have an:=bE;refine aV.bl al Tryz.func158 C C fun s I=>?_
 refine hp ?_;refine af.jw I 122 2 0 fun I=>?_
 refine af.ck [0,1,8,9] C I (σ:=Nat×List (Int×Int)×bV) (fun p=>[(10,.int .i64 (p.1:Int)),(5,.aG 2 (p.2.1.map eK) p.2.2)]) (fun p=>[(p.2.2,.row 122 2 p.2.1.length)]) (fun p=>p.1≤xs.length∧p.2.1.length≤p.1∧xs.filter q=p.2.1++(xs.drop p.1).filter q) (fun p=>xs.length-p.1) (0,[],.nil)
  ⟨g9 _,g7 _,rfl⟩ ⟨⟨_,rfl,aT⟩,⟨_,rfl,aZ.nil h4⟩,trivial⟩ ba ?_
 rintro ⟨j,out,gm⟩ ⟨aI,gd,aw⟩ I;simp only at aI gd aw I ⊢;refine cf ?_;refine af.cond C (fun az=>?_) (fun a7=>?_);rotate_left
 ·have a7:j=xs.length:=by simp at a7;omega
  rw [eE ag,at4,d9] at aw;rw [aw];have b9:=Vb (out.map eK) gm;refine c5 ?_;exact Fin.cE I C aZ.bd
 have az:j<xs.length:=by simpa using az
 obtain ⟨x,ab,ch⟩:=b7 (f:=eK) az;have ar:=h x (d6 ab);rw [drop_cons ab,al5] at aw
 try rw [eK] at ar ch
 refine ft ?_;cases bn:q x with
 | true=>
  rw [bn] at aw ar;rw [f7 C] at aw;refine bK ?_;refine ae.ho al I C C C C C C C eH C C C C C C C C a' ir (by show (_+1)*16≤_;omega) ag (fun bT I=>?_);refine hC ?_;exact bD.mk (j+1,out++[x],.own bT) I ⟨az,by simp;omega,by rw [aw];simp⟩ yr O2 sb
 | false=>
  rw [bn] at aw ar;rw [d7 bc] at aw;refine ki ?_;exact bD.mk (j+1,out,gm) I ⟨az,by show out.length≤j+1;omega,aw⟩ cA ba sb
def mY (p:bN) (mb:Nat):List ah:=cI p++(eX (bY p)++[.map mb])
theorem aaw (p:bN) (mb:Nat) (n:Int):aV d0 157 [.bA (mY p mb) 0,.int .i64 n] (.bool (lf p n)):=by
 have an:=bE;refine aV.bl al Tryz.func157 C C fun s I=>?_
 unfold mY cI eX lf bj;by_cases aa:n≥0
 ·rw [g8 aa,f5]
  refine dS ?_;refine ae.dK 11 C (g8 aa) ?_;refine ep ?_;refine Fin.cE I C (aZ.of_eq (ae6 ah.bool ?_));rw [f8]
 ·rw [i8 aa,f6]
  refine dS ?_;refine ae.dh 11 C (i8 aa) ?_;refine et ?_;exact br I
theorem aax (n:Int):aV d0 157 [.qB,.int .i64 n] (.bool false):=by
 have an:=bE;refine aV.bl al Tryz.func157 C C fun s I=>?_
 refine gE ?_;exact br I
theorem aay (aP:List c3) (v:Int×Int):ej d0 (.func 159 [] [.bA [fM aP] 0]) [eK v] (.bool (ff aP.length v)):=by
 have an:=bE;refine ej.fm (first:=[]) (cap:=[.bA [fM aP] 0]) ?_;refine aV.bl al Tryz.func159 C C fun s I=>?_
 have h:=aat v (aP.map hs).length;rw [show ff ((aP.map hs).length:Int) v=ff aP.length v by rw [f8]] at h;unfold eK at *;refine cl ?_;exact br I
def sN (p:bN) (aP:List c3) (n:Int) (args:List (Int×Int)):Bool:=lf p n&&(decide ((args.length:Int)=p.dt.getD n.toNat 0)&&nU (bY p) aP args)
theorem aaz (w:bz):ig w (.mk 1 0 [] 0 0 [])=true:=by
 unfold ig;rw [e2,d7 bc,f7 (by rfl),ha]
theorem aaA (w:bz) (aP:List c3) (args:List (Int×Int)):(nt w (.mk 1 0 [] 0 0 []) aP args).2=if nU w aP args then 0 else 2:=by
 unfold nt;rw [aaz,f5,show decide (iV (.mk 1 0 [] 0 0 [])≤(args.length:Int))=true by simp [iV,hb,av.cU,av.op],aq6];split<;>rfl
theorem aaB (p:bN) (aF:gx p) (bo:fX p=false):aV d0 118 [cD p] (.qB):=by
 have an:=bE;refine aV.bl al Tryz.func118 C C fun s I=>?_
 have hw:=H7 p aF;rw [bo] at hw;simp only [af7,ah9] at hw;unfold cD cI at *;refine ft ?_;exact br I
theorem aaC (p:bN) (aF:gx p) (ec:fX p=true) (mb:Nat) (n:Int) (aP:List c3) (args:List (Int×Int)) (aC:aP.length<bx) (ai:∀ o∈aP,o.bm.length<bx) (aO:args.length<bx) :
  aV d0 119 [.bA (mY p mb) 0,fM aP,.int .i64 n,iX args] (.bool (sN p aP n args)):=by
 have an:=bE;have PF:=aaw p mb n;have aaD:=aav (.func 159 [] [.bA [fM aP] 0]) (ff aP.length) args aO (fun v _=>aay aP v);have qv:=Hl (bY p) (vr ec) (.mk 1 0 [] 0 0 []) dV aP args aC ai aO;have aaE:=aaA (bY p) aP args;have nC:sN p aP n args=(lf p n&&(decide ((args.length:Int)=p.dt.getD n.toNat 0)&&nU (bY p) aP args)):=rfl;refine aV.bl al Tryz.func119 C C fun s I=>?_
 rw [av.cG] at qv;unfold av.cells eI at qv;cases aq:lf p n with
 | false=>
  rw [aq] at PF nC;rw [nC,f6];unfold mY cI eX fM iX at *;refine cl ?_;exact br I
 | true=>
  rw [aq] at PF nC;rw [f5] at nC;unfold lf at aq;simp only [f4,g6] at aq;obtain ⟨c,rfl⟩:∃ c:Nat,n=c:=⟨n.toNat,by omega⟩;obtain ⟨a,rG,PG⟩:=b7 (f:=bg) (l:=p.dt) (show c<p.dt.length by omega);have k1:p.dt.getD ((c:Nat):Int).toNat 0=a:=by rw [i9,d5,rG];rfl
  rw [k1] at nC;unfold mY cI eX fM iX bj at *;refine cl ?_;by_cases eQ:(args.length:Int)=a;rotate_left
  ·refine ae.dK 28 C cL ?_
   rw [nC,i8 eQ,f6];refine et ?_;exact br I
  refine ae.dh 28 C cL ?_;rw [g8 eQ,f5] at nC;cases fJ:args.all (ff aP.length) with
  | false=>
   have aaF:nU (bY p) aP args=false:=by
    unfold nU;rw [fJ];simp
   rw [aaF] at nC;rw [nC];have az:(args.filter (ff aP.length)).length<args.length:=by
    rw [List.length_filter_lt_length_iff_exists];obtain ⟨x,ab,h⟩:=List.all_eq_false.1 fJ;exact ⟨x,ab,h⟩
   refine c5 ?_;refine af.cond C (fun _=>?_) (fun h=>by simp at h;omega);refine gE ?_;exact br I
  | true=>
   have jB:args.filter (ff aP.length)=args:=at0.2 (af5.1 fJ);rw [jB] at aaD;rw [aaE] at qv;refine c5 ?_;refine af.cond C (fun h=>by simp at h) (fun _=>?_);cases cN:nU (bY p) aP args with
   | false=>
    rw [cN] at nC qv;simp only [af7,ah9] at qv;rw [nC];refine pd ?_;refine aL.k5 C C C C C qv (.cons aT (.cons (aZ.agg (.cons aT (.cons aT (.cons aZ.empty (.cons aT (.cons aT (.one aZ.empty))))))) (.cons aT (.one aT)))) ?_;refine hD ?_;exact br I
   | true=>
    rw [cN] at nC qv;simp only [ag5] at qv;rw [nC];refine pd ?_;refine aL.k5 C C C C C qv (.cons aT (.cons (aZ.agg (.cons aT (.cons aT (.cons aZ.empty (.cons aT (.cons aT (.one aZ.empty))))))) (.cons aT (.one aT)))) ?_;refine hD ?_;exact br I
def nD (n:Int):Nat→List gN→List Nat
 | _,[]=>[]
 | i,m::r=>if m.gen=n then i::nD n (i+1) r else nD n (i+1) r
theorem PH (n:Int):∀ (ms:List gN) (i:Nat),(nD n i ms).length≤ms.length
  | [],_=>g7 _
  | m::r,i=>by
    have:=PH n r (i+1);rw [nD];split<;>simp<;>omega
theorem PI (n:Int):∀ (ms:List gN) (i:Nat) (j:Nat),j∈nD n i ms→i≤j∧j<i+ms.length
  | [],i,j,h=>by rw [nD] at h;cases h
  | m::r,i,j,h=>by
    rw [nD] at h;have aW:=PI n r (i+1) j;rw [i5];split at h
    · rcases ae8.1 h with rfl|h
      · omega
      · have:=aW h;omega
    · have:=aW h;omega
def rT (i:Nat):ah := .int .i64 (i:Int)
theorem aaG (p:bN) (aF:gx p) (mb:Nat) (n:Int):yu d0 196 [] [.bA [.bA (mY p mb) 0] 0,.bA [.int .i64 n] 0] [] rT (nD n 0 p.methods):=by
 have an:=bE;have hV:=aF.y5;intro l Go fD fK pf K bk;refine bI.bl al Tryz.func196 C C fun s I=>?_
 rw [f0] at I ⊢;unfold mY cI eX at *;refine hp ?_;refine af.ck [0,1,2,10,11] C I (σ:=Nat×bb) (fun q=>[(12,.int .i64 (q.1:Int))]) (fun q=>q.2) (fun q=>q.1≤p.methods.length∧Go (nD n q.1 (p.methods.drop q.1)) q.2) (fun q=>p.methods.length-q.1) (0,K) ⟨g9 _,bk⟩ (cK C) (aJ.all _) ?_;rintro ⟨j,iK⟩ ⟨aI,dj⟩ I
 try simp only at aI dj I ⊢
 refine cf ?_;refine af.cond C (fun az=>?_) (fun a7=>?_);rotate_left
 ·have a7:j=p.methods.length:=by simp at a7;omega
  rw [eE ag,nD] at dj;refine ew ?_;exact Fin.bC I C aT (aJ.all _) (.inl ⟨rfl,.inl dj⟩)
 have az:j<p.methods.length:=by simpa using az
 obtain ⟨m,ab,ch⟩:=b7 (f:=mJ) az;rw [drop_cons ab,nD] at dj;unfold mJ oA at ch
 repeat (first|(refine An I ?_;clear I;intro I)|refine ae.dZ al I rfl rfl rfl rfl rfl rfl rfl (fun cB I=>?_))
 by_cases aq:m.gen=n
 ·rw [f7 aq] at dj
  have ax:=pf j _ iK dj;unfold rT at ax;refine ae.dK 21 C (by simpa using aq) ?_;refine er ?_;refine ae.gM C C C C C C ax I (aJ.all _).there ?_ ?_
  ·rintro x aQ (⟨⟨⟩,h⟩|⟨⟨⟩,h⟩|⟨_,⟨⟩,_⟩) I
   ·refine bK ?_
    exact bD.mk (j+1,aQ) I ⟨az,h⟩ cA (aJ.jx (aJ.eb aQ)) ql
   ·refine fe ?_
    exact Fin.bC I C aT (aJ.jx (aJ.eb aQ)) (.inl ⟨rfl,.inr h⟩)
  ·rintro x aQ (⟨h,_⟩|⟨h,_⟩|⟨v,⟨⟩,h⟩) I
   ·cases h
   ·cases h
   exact Fin.fc I aT (aJ.jx (aJ.eb aQ)) (.inr ⟨_,rfl,h⟩)
 ·rw [d7 aq] at dj
  refine ae.dh 21 C (by simpa using aq) ?_;refine bK ?_;exact bD.mk (j+1,iK) I ⟨az,dj⟩ cA (aJ.all _).there ql
theorem aaH (p:bN) (mb:Nat) (n:Int):aV d0 163 [.bA (mY p mb) 0,.int .i64 n] (.func 196 [] [.bA [.bA (mY p mb) 0] 0,.bA [.int .i64 n] 0]):=by
 have an:=bE;refine aV.bl al Tryz.func163 C C fun s I=>?_
 refine gE ?_;exact br I
theorem aaI (f:FuncId) (cap:List ah) (xs:List Nat) (aC:xs.length<bx) (ox:yu d0 f [] cap [] rT xs):bI d0 195 [.aG 0 [] .nil,.func f [] cap] [] (fun o K=>o = .ret (.aG 1 (xs.map rT) .bd)∧K=[]):=by
 have an:=bE;refine bI.bl al Tryz.func195 C C fun s I=>?_
 repeat (first|(refine Ao ?_)|refine ae.jJ I C C C C C C (fun b I=>?_)|(refine Ap ?_))
 obtain ⟨dm,rfl⟩:∃ x,x=b:=⟨_,rfl⟩;refine af.jw I 3 1 0 fun I=>?_
 refine af.rz I [.aG 1 [] .nil] (kb:=dm) a' (.one (aZ.nil h4)) (fun I=>?_);refine af.Gv I C dV ox .nil (fun rem K=>∃ out own,out.length+rem.length=xs.length∧xs=out++rem∧K=[(.own dm,.box 23 [.aG 1 (out.map rT) own]),(own,.row 3 1 out.length)]) (fun _ _=>False) (fun _ _=>False) ⟨[],.nil,by simp,rfl,rfl⟩ ?_ ?_ (fun _ _ h=>h.elim) (fun _ _ h=>h.elim)
 ·rintro s₁ x rem K ⟨out,own,aa,ad,rfl⟩ I
  rw [i5] at aa;unfold rT at I ⊢;refine hq I ?_;intro I;refine ae.ho al I C C C C C C C eH C C C C C C C C a' ir lC ag (fun bT I=>?_);refine ct I ?_;intro I;exact At.mk [(.own dm,.box 23 [.aG 1 ((out++[x]).map rT) (.own bT)]),(.own bT,.row 3 1 (out++[x]).length)] I (by simp only [rT,ae1,ae0,ag7,f9,i5,ag0];exact ba) ⟨out++[x],.own bT,by simp;omega,by rw [ad];simp,rfl⟩
 ·rintro K ⟨out,own,aa,ad,rfl⟩ I
  rw [d9] at ad;subst ad;refine ct I ?_;intro I;exact Fin.bC I C aZ.bd .nil ⟨rfl,rfl⟩
def B9 (p:bN) (aP:List c3) (args:List (Int×Int)) (i:Int):Bool:=(nt (bY p) (p.methods.getD i.toNat default).fact aP args).1&&(nt (bY p) (p.methods.getD i.toNat default).fact aP args).2==0
def Je (p:bN) (aP:List c3) (n:Int) (args:List (Int×Int)):List Int:=((nD n 0 p.methods).map fun i:Nat=>(i:Int)).filter (B9 p aP args)
theorem aaJ (p:bN) (aF:gx p) (ec:fX p=true):bI d0 118 [cD p] [] (fun o K=>∃ mb,o = .ret (.bA (mY p mb) 0)∧K=[(.own mb,.map [])]):=by
 have hw:=H7 p aF;rw [ec,f7 C,f7 C] at hw;refine bI.bl al Tryz.func118 C C fun s I=>?_
 unfold cD cI mY eI eX at *;refine ft ?_;refine ae.r8 I C C C C (fun mb I=>?_);refine ep ?_;exact Fin.bC I C aT (aJ.all _) ⟨mb,rfl,rfl⟩
theorem aaK (p:bN) (aF:gx p) (ec:fX p=true) (mb:Nat) (aP:List c3) (args:List (Int×Int)) (aC:aP.length<bx) (ai:∀ o∈aP,o.bm.length<bx) (aO:args.length<bx) (j:Nat) (aI:j<p.methods.length):ej d0 (.func 164 [] [.bA [.bA (mY p mb) 0] 0,.bA [fM aP] 0,.bA [iX args] 0]) [.int .i64 (j:Int)] (.bool (B9 p aP args j)):=by
 have an:=bE;refine ej.fm (first:=[]) (cap:=[.bA [.bA (mY p mb) 0] 0,.bA [fM aP] 0,.bA [iX args] 0]) ?_;refine aV.bl al Tryz.func164 C C fun s I=>?_
 obtain ⟨m,ab,ch⟩:=b7 (f:=mJ) aI;have fs:=d6 ab;have qv:=Hl (bY p) (vr ec) m.fact (by have:=aF.facts m fs;omega) aP args aC ai aO;have iw:B9 p aP args j=((nt (bY p) m.fact aP args).1&&(nt (bY p) m.fact aP args).2==0):=by
  unfold B9;rw [i9,d5,ab];rfl
 rw [av.cG] at qv;unfold av.cells eI at qv;unfold mJ oA at ch;unfold mY cI eX fM iX at *;rw [iw];generalize nt (bY p) m.fact aP args=r at *;obtain ⟨gq,b6⟩:=r;cases gq with
 | false=>
  refine cl ?_;exact br I
 | true=>
  refine cl ?_;exact br I
theorem aaL (f:FuncId) (cap:List ah) (xs:List Nat) (aC:xs.length<bx) (ox:yu d0 f [] cap [] rT xs):aV d0 162 [.func f [] cap] (.aG 1 (xs.map rT) .bd):=by
 have aD:=bI.GM (aaI f cap xs aC ox);refine aV.bl al Tryz.func162 C C fun s I=>?_
 refine cl ?_;exact br I
theorem aaM (p:bN) (aF:gx p) (ec:fX p=true) (mb:Nat) (n:Int) (aP:List c3) (args:List (Int×Int)) (aC:aP.length<bx) (ai:∀ o∈aP,o.bm.length<bx) (aO:args.length<bx) :
    aV d0 120 [.bA (mY p mb) 0,fM aP,.int .i64 n,iX args] (bj (Je p aP n args)):=by
  have an:=bE;have hV:=aF.y5;have gd:=PH n p.methods 0;have ade:=aaH p mb n;have sU:=aaL 196 [.bA [.bA (mY p mb) 0] 0,.bA [.int .i64 n] 0] (nD n 0 p.methods) ag (aaG p aF mb n)
  have Jf:=aau (.func 164 [] [.bA [.bA (mY p mb) 0] 0,.bA [fM aP] 0,.bA [iX args] 0]) (B9 p aP args) ((nD n 0 p.methods).map fun i:Nat=>(i:Int)) ve (fun x ab=>by
    obtain ⟨j,aI,rfl⟩:=af8.1 ab
    have:=(PI n p.methods 0 j aI).2
    exact aaK p aF ec mb aP args aC ai aO j ag)
  have he:((nD n 0 p.methods).map fun i:Nat=>(i:Int)).map bg=(nD n 0 p.methods).map rT:=by rw [at9];rfl
  rw [he] at Jf;refine aV.bl al Tryz.func120 C C fun s I=>?_
  unfold Je bj;refine cl ?_;exact br I
def oU (p:bN) (aP:List c3) (n:Int) (args:List (Int×Int)):Bool:=fX p&&sN p aP n args
def EN (p:bN) (aP:List c3) (n:Int) (args:List (Int×Int)):ah := .cr [if oU p aP n args then bj (Je p aP n args) else .aG 0 [] .nil,.int .i64 (if oU p aP n args then 0 else 2)]
theorem aaN (n:Int) (aP:List c3) (args:List (Int×Int)):aV d0 119 [.qB,fM aP,.int .i64 n,iX args] (.bool false):=by
 have aq:=aax n;refine aV.bl al Tryz.func119 C C fun s I=>?_
 unfold fM iX;refine cl ?_;exact br I
theorem aaO (p:bN) (aF:gx p) (n:Int) (aP:List c3) (args:List (Int×Int)) (aC:aP.length<bx) (ai:∀ o∈aP,o.bm.length<bx) (aO:args.length<bx):aV d0 72 [cD p,fM aP,.int .i64 n,iX args] (EN p aP n args):=by
 have an:=bE;refine aV.bl al Tryz.func72 C C fun s I=>?_
 have iw:oU p aP n args=(fX p&&sN p aP n args):=rfl;unfold EN;cases ec:fX p with
 | false=>
  rw [ec,f6] at iw;rw [iw];have aE:=aaB p aF ec;have aD:=aaN n aP args;unfold cD cI at *;refine cl ?_;exact br I
 | true=>
  rw [ec,f5] at iw;have aE:=aaJ p aF ec;unfold cD cI at *;refine dS ?_;refine ae.b4 rfl rfl rfl rfl rfl aE I .nil ?_ (fun _ _ h _=>by obtain ⟨_,h,_⟩:=h;cases h);rintro _ _ ⟨mb,⟨⟩,rfl⟩ I;have aD:=aaC p aF ec mb n aP args aC ai aO;have lP:=aaM p aF ec mb n aP args aC ai aO;cases nC:sN p aP n args with
  | false=>
   rw [nC] at iw aD;rw [iw];refine cl ?_;exact br I
  | true=>
   rw [nC] at iw aD;rw [iw];refine c5 ?_;exact br I
def pH (w:bz) (aP:List c3) (args:List (Int×Int)) (f:av):Bool:=(nt w f aP args).2==0&&(nt w f aP args).1
def rU (q:av→Bool):Nat→List av→Nat→Nat
 | _,[],v=>v
 | i,f::r,v=>rU q (i+1) r (if q f then v|||2^i else v)
theorem Jg (q:av→Bool):∀ (l:List av) (i v:Nat),v<2^i→rU q i l v<2^(i+l.length)
  | [],i,v,h=>h
  | f::r,i,v,h=>by
    have aa:(if q f then v|||2^i else v)<2^(i+1):=by
      have ad:2^i<2^(i+1):=ai6 ag ag;split
      · exact aj0 ag ad
      · omega
    have:=Jg q r (i+1) _ aa;rw [rU,i5,show i+(r.length+1)=i+1+r.length by omega];exact this
def ln (p:bN) (aP:List c3) (n:Int) (args:List (Int×Int)):Nat:=rU (pH (bY p) aP args) 0 (cy p n) 0
def s5 (p:bN) (aP:List c3) (n:Int) (args:List (Int×Int)) (g:List bs):Int:=
 if !(oU p aP n args) || !fF g then 2 else if fq p n=0 then (if kO p n g then 0 else 7) else fq p n
def EO (p:bN) (aP:List c3) (n:Int) (args:List (Int×Int)) (g:List bs):ah:=
 .cr [if s5 p aP n args g=0 then bj (g.getD (leads g (ln p aP n args)).1.toNat default).ms else .aG 0 [] .nil,.int .i64 (if s5 p aP n args g=0 then ((leads g (ln p aP n args)).2:Int) else 0),.int .i64 (s5 p aP n args g)]
theorem PJ {g:List bs} (h:fF g=true):∀ x∈g,x.ms.length≤16:=fun x ab=>by
 obtain ⟨i,aS⟩:=af' ab;have aB:=tM h aS;by_cases aO:x.atom = -1
 ·exact ((mN aO).1 aB).2.2.1
 ·have:=((kk aO).1 aB).2.2.2.2.2.2
  omega
theorem aaP {i:Nat} (h:i≤7):ac' .i64 (1*2^(min (i:Int).toNat (am6 .i64)))=((2^i:Nat):Int):=I8 h
theorem PK (p:bN) (aF:gx p) (n:Int) (aP:List c3) (args:List (Int×Int)) (aC:aP.length<bx) (ai:∀ o∈aP,o.bm.length<bx) (jM:args.length<bx) (g:List bs) (aq:g.length<bx):aV d0 22 [cD p,fM aP,.int .i64 n,iX args,e7 g] (EO p aP n args g):=by
 have an:=bE;refine aV.bl al Tryz.func22 C C fun s I=>?_
 have lP:=aaO p aF n aP args aC ai jM;have aX:=DA g aq;have aO:=BJ p aF n;have e0:s5 p aP n args g=if !(oU p aP n args) || !fF g then 2 else if fq p n=0 then (if kO p n g then 0 else 7) else fq p n:=rfl
 unfold EO;cases iw:oU p aP n args with
 | false=>
  rw [iw] at e0;have e0:s5 p aP n args g=2:=e0;unfold EN at lP;rw [iw,d7 bc,d7 bc] at lP;rw [e0,d7 bc,d7 bc];unfold cD cI fM iX e7 at *;refine cl ?_;exact br I
 | true=>
 have ec:fX p=true:=by unfold oU at iw;rw [f4] at iw;exact iw.1
 unfold EN at lP;rw [iw,f7 C,f7 C] at lP;cases gk:fF g with
 | false=>
  rw [iw,gk] at e0;have e0:s5 p aP n args g=2:=e0;rw [gk] at aX;rw [e0,d7 bc,d7 bc];unfold cD cI fM iX e7 at *;refine cl ?_;exact br I
 | true=>
 rw [iw,gk] at e0;have e0:s5 p aP n args g=if fq p n=0 then (if kO p n g then 0 else 7) else fq p n:=e0
 rw [gk] at aX;unfold cD cI fM iX e7 at *;refine cl ?_;refine ae.b4 rfl rfl rfl rfl rfl aO I .nil ?_ (fun _ _ h _=>by rcases h with ⟨_,_,_,_,h,_⟩|⟨_,⟨_,h⟩,_⟩<;>cases h);rintro _ _ (⟨he,cd,an,cC,⟨⟩,rfl⟩|⟨he,⟨v,⟨⟩⟩,rfl⟩) I;rotate_left
 ·rw [d7 he] at e0
  rw [e0,d7 he,d7 he];simp only [f0] at I ⊢;refine et ?_;refine af.cond C (fun _=>?_) (fun h=>absurd hx he);refine gE ?_;exact br I
 rw [f7 he] at e0;obtain ⟨ec,gB,cx,ez,fJ⟩:=rS he;have aE:=PE p aF ec n (cy p n) an cC cd gB cx ez fJ g gk;have zT:(g.all (fun x=>decide (x.atom<((cy p n).length:Int)))&&(h9 (bY p) (cy p n)).all (ui p n (cy p n) g))=kO p n g:=rfl;rw [zT] at aE;unfold ey e7 at aE;simp only [ab',f0] at I ⊢;refine bK ?_;refine ae.b4 rfl rfl rfl rfl rfl aE I ba ?_ (fun _ _ ⟨h,_⟩ _=>by cases h);rintro _ _ ⟨⟨⟩,Bp,m,rfl⟩ I;simp only [ab',f0] at I ⊢;cases C9:kO p n g with
 | false=>
  rw [C9,d7 bc] at e0;rw [e0,d7 bc,d7 bc];refine et ?_;exact br I
 | true=>
 rw [C9,f7 C] at e0;rw [e0,f7 C,f7 C];have EL:ln p aP n args=rU (pH (bY p) aP args) 0 (cy p n) 0:=rfl;have fz:=Jg (pH (bY p) aP args) (cy p n) 0 0 bc;rw [af6] at fz;have xT:2^(cy p n).length≤2^7:=ah6 ag gB;rw [← EL] at fz;generalize ln p aP n args=view at *;have mg:=Nf g gk view ag;obtain ⟨PL,B',g1,g2,-⟩:=Nh gk view;have hH:B'.ms.length≤16:=(PJ gk) B' (d6 g2);have b9:=AZ B'.ms .bd ag;have qR:(g.map eR)[PL]? = some (eR B'):=by rw [ae7,g2];rfl
 rw [g1] at mg ⊢;rw [i9,show g.getD PL default=B' by rw [d5,g2];rfl];unfold e7 at mg;unfold eR gO at qR;unfold eu ei at I ⊢;generalize bM:cy p n=l at *;refine hq I ?_;intro I;refine af.ck [1,3,4,15,55,56] C I (σ:=Nat×Nat) (fun q=>[(57,.int .i64 (q.1:Int)),(17,.int .i64 (q.2:Int))]) (fun _=>[ey p n (ei l) Bp an cC cd]) (fun q=>q.1≤l.length∧q.2<2^q.1∧view=rU (pH (bY p) aP args) q.1 (l.drop q.1) q.2) (fun q=>l.length-q.1) (0,0) ⟨g9 _,by simp,EL⟩ (cK C) xM ?_;rintro ⟨j,v⟩ ⟨aI,ar,aw⟩ I;simp only [ey,eu,ei] at aI ar aw I ⊢;have adf:2^j≤2^7:=ah6 ag ag;refine cf ?_;refine af.cond C (fun az=>?_) (fun a7=>?_);rotate_left
 ·have a7:j=l.length:=by simp at a7;omega
  rw [eE ag,rU] at aw;subst aw;refine c5 ?_;exact br I
 have az:j<l.length:=by simpa using az
 obtain ⟨f,ab,ch⟩:=b7 (f:=av.cj) az;have sV:=cx f (d6 ab);have rP:f.size<bx:=by
  have aa:=f.size_eq;have ad:=y' sV.1 sV.2;have aj:=xS sV.1 sV.2;rw [aj,av.iS] at aa;omega
 have va:=Hl (bY p) (vr ec) f rP aP args aC ai jM;rw [drop_cons ab,rU] at aw;have je:pH (bY p) aP args f=((nt (bY p) f aP args).2==0&&(nt (bY p) f aP args).1):=rfl;generalize nt (bY p) f aP args=r at va je;obtain ⟨gq,b6⟩:=r;rw [av.cG] at ch va;unfold av.cells eI eX fM iX at *;simp only at je va;by_cases bo:b6=0
 ·subst bo
  cases gq with
  | true=>
   have je:pH (bY p) aP args f=true:=je;rw [je,f7 C] at aw
   repeat (first|(refine T0 I ?_;clear I;intro I)|refine ae.dZ al I rfl rfl rfl rfl rfl rfl rfl (fun cB I=>?_)|(refine Gl I ?_;clear I;intro I))
   refine ae.shl ((2^j:Nat):Int) C C C C C C ag (aaP ag) ?_;refine ae.bits _ C C C C C C (Um ag ag) ?_;refine hC ?_;exact bD.mk (j+1,v|||2^j) I ⟨az,aj0 (by rw [av1];omega) (ai6 ag ag),aw⟩ cA ba rn
  | false=>
   have je:pH (bY p) aP args f=false:=je;rw [je,d7 bc] at aw
   repeat (first|(refine T1 I ?_;clear I;intro I)|refine ae.dZ al I rfl rfl rfl rfl rfl rfl rfl (fun cB I=>?_)|(refine Gl I ?_;clear I;intro I))
   exact bD.mk (j+1,v) I ⟨az,by show v<2^(j+1);rw [av1];omega,aw⟩ cA ba rn
 ·have je:pH (bY p) aP args f=false:=by rw [je,show (b6==0)=false from beq_eq_false_iff_ne.2 bo,f6]
  rw [je,d7 bc] at aw
  repeat (first|(refine T2 I ?_;clear I;intro I)|refine ae.dZ al I rfl rfl rfl rfl rfl rfl rfl (fun cB I=>?_)|(refine Gl I ?_;clear I;intro I))
  refine ae.dh 75 C (beq_eq_false_iff_ne.2 bo) ?_;refine bK ?_;exact bD.mk (j+1,v) I ⟨az,by show v<2^(j+1);rw [av1];omega,aw⟩ cA ba rn
def eT (ws:List Nat) (u:Nat):Bool:=ws.contains u
theorem aaQ {vs:List Nat} {q:Nat→Bool} {v:Nat} (h:v∈vs):eT (vs.filter q) v=q v:=by
 unfold eT;rw [af0,ah0,ag3];exact ⟨fun h=>h.2,fun ad=>⟨h,ad⟩⟩
def jl (vs ws:List Nat):Prop:=∃ q,ws=vs.filter q
theorem jl.all (vs:List Nat):jl vs vs:=⟨fun _=>true,(at0.2 fun _ _=>rfl).symm⟩
theorem jl.filter {vs ws:List Nat} (h:jl vs ws) (q:Nat→Bool):jl vs (ws.filter q):=by
 obtain ⟨r,rfl⟩:=h;exact ⟨_,List.filter_filter⟩
theorem jl.mem {vs ws:List Nat} (h:jl vs ws) {v:Nat} (ar:v∈ws):v∈vs:=by
 obtain ⟨r,rfl⟩:=h;exact (ag3.1 ar).1
theorem jl.len {vs ws:List Nat} (h:jl vs ws):ws.length≤vs.length:=by
 obtain ⟨r,rfl⟩:=h;exact aj8 _ _
theorem jl.self {vs ws:List Nat} (h:jl vs ws):vs.filter (eT ws)=ws:=by
 obtain ⟨r,rfl⟩:=h;exact aA4 fun v ar=>aaQ ar
theorem jl.inj {vs ws Ca:List Nat} (eM:∀ v∈vs,v<128) (h:jl vs ws) (eY:jl vs Ca) (he:kc (eT ws)=kc (eT Ca)):ws=Ca:=by
 have:=Z5 he;rw [← h.self,← eY.self];exact aA4 fun v ar=>this v (eM v ar)
theorem PM {vs ws:List Nat} (eM:∀ v∈vs,v<128) (h:jl vs ws):(kc (eT ws)==[0,0])=ws.isEmpty:=by
 rw [af0,am5,List.isEmpty_iff,← Z6];constructor
 ·intro he
  have bo:jl vs []:=⟨fun _=>false,by simp⟩;exact h.inj eM bo he
 ·rintro rfl
  rfl
def rV (A:Nat) (h:Nat→List Int) (vs:List Nat) (M:List (List Int×ah)):Prop:=∀ e∈M,∃ ws,jl vs ws∧e=(kc (eT ws),lg (fN A h ws))
theorem rV.len {A:Nat} {h:Nat→List Int} {vs:List Nat} {M:List (List Int×ah)} (fj:rV A h vs M):∀ e∈M,e.1.length=2:=fun e he=>by
 obtain ⟨ws,_,rfl⟩:=fj e he;rfl
theorem rV.find {A:Nat} {h:Nat→List Int} {vs ws:List Nat} {M:List (List Int×ah)} {e:List Int×ah} (eM:∀ v∈vs,v<128) (fj:rV A h vs M) (hw:jl vs ws) (aX:M.find? (fun e=>e.1==kc (eT ws))=some e):e.2=lg (fN A h ws):=by
 obtain ⟨Ca,aa,ad⟩:=fj e (List.mem_of_find?_eq_some aX);have aj:=List.find?_some aX;rw [ad] at aj ⊢;rw [aa.inj eM hw (by simpa using aj)]
theorem rV.add {A:Nat} {h:Nat→List Int} {vs ws:List Nat} {M:List (List Int×ah)} (fj:rV A h vs M) (hw:jl vs ws):rV A h vs (M++[(kc (eT ws),lg (fN A h ws))]):=fun e he=>by
 rcases ae2.1 he with he|he
 ·exact fj e he
 ·rw [t6.1 he];exact ⟨ws,hw,rfl⟩
def kR (vs:List Nat) (M mm:List (List Int×ah)) (k:Nat):Prop:=∀ e∈mm,e∈M∨∃ ws,jl vs ws∧ws.length<k∧e.1=kc (eT ws)
theorem kR.refl (vs:List Nat) (M:List (List Int×ah)) (k:Nat):kR vs M M k:=fun _ h => .inl h
theorem kR.trans {vs:List Nat} {M mm PN:List (List Int×ah)} {k k':Nat} (h:kR vs M mm k) (eY:kR vs mm PN k') (aA:k'≤k):kR vs M PN k:=fun e he=>by
 rcases eY e he with aa|⟨ws,aa,ad,aj⟩
 ·exact h e aa
 ·exact .inr ⟨ws,aa,by omega,aj⟩
theorem kR.add {vs ws:List Nat} {M mm:List (List Int×ah)} {k:Nat} {x:ah} (h:kR vs M mm k) (hw:jl vs ws) (aA:ws.length<k):kR vs M (mm++[(kc (eT ws),x)]) k:=fun e he=>by
 rcases ae2.1 he with he|he
 ·exact h e he
 ·rw [t6.1 he];exact .inr ⟨ws,hw,aA,rfl⟩
theorem kR.mono {vs:List Nat} {M mm:List (List Int×ah)} {k k':Nat} (h:kR vs M mm k) (aA:k≤k'):kR vs M mm k':=fun e he=>by
 rcases h e he with aa|⟨ws,aa,ad,aj⟩
 ·exact .inl aa
 ·exact .inr ⟨ws,aa,by omega,aj⟩
theorem kR.none {vs ws:List Nat} {M mm:List (List Int×ah)} (eM:∀ v∈vs,v<128) (h:kR vs M mm ws.length) (hw:jl vs ws) (aX:M.find? (fun e=>e.1==kc (eT ws))=none):mm.find? (fun e=>e.1==kc (eT ws))=none:=by
 rw [List.find?_eq_none] at aX ⊢;intro e he;rcases h e he with aa|⟨Ca,aa,ad,aj⟩
 ·exact aX e aa
 ·rw [aj]
  intro aB;have:=aa.inj eM hw sy;rw [this] at ad;exact absurd ad (Nat.lt_irrefl _)
def zq:Option bF→ah
 | none => .ob
 | some t=>lg t
theorem zr {ws:List Nat} {u:Nat}:eT ws u=true↔u∈ws:=ah0
theorem aaR {vs ws:List Nat} (hw:jl vs ws) (i u:Nat):(eT ws u&&eT (vs.filter fun v=>v.testBit i) u)=eT (e8 i ws) u:=by
 rw [af0,f4,zr,zr,zr,e8,ag3,ag3];exact ⟨fun h=>⟨h.1,h.2.2⟩,fun h=>⟨h.1,hw.mem h.1,h.2⟩⟩
theorem aaS {vs ws:List Nat} (hw:jl vs ws) (i u:Nat):(eT ws u && !eT (vs.filter fun v=>v.testBit i) u)=eT (e9 i ws) u:=by
 rw [af0,f4,ai3,af3,zr,ne_eq,zr,zr,e9,ag3,ag3];refine ⟨fun h=>⟨h.1,?_⟩,fun h=>⟨h.1,fun ad=>?_⟩⟩
 ·cases an:u.testBit i with
  | false=>rfl
  | true=>exact absurd ⟨hw.mem h.1,an⟩ h.2
 ·have:=h.2
  rw [ad.2] at this;cases this
theorem aaT {vs:List Nat} {i j v:Nat} (ar:vs[j]? = some v):(fun u=>eT ((vs.take (j+1)).filter fun v=>v.testBit i) u)=(fun u=>eT ((vs.take j).filter fun v=>v.testBit i) u||(v.testBit i&&u==v)):=by
 funext u;rw [an3,ar,at'];unfold eT;rw [ao0];congr 1;show List.contains (List.filter (fun v=>v.testBit i) [v]) u=_;rw [al5,at4];cases v.testBit i with
 | true=>simp;rfl
 | false=>simp
section
variable {P:Program} {N:Nat} {env:Env} {s:ao} {o:Oper}
theorem a6.EP {t yt:TypeId} {x y:Operand} {k:IntKind} {n:Nat} {xs ys:List Int} (gQ:sx P t k n) (bn:P.eqGuardType P.depth t=false) (ai:o.op = .binOp .eql t x y yt) (ab:aN env x=some (ko k xs)) (ax:aN env y=some (ko k ys)) (aa:xs.length=n) (ad:ys.length=n) :
  a6 P N o env s (fun v ak=>v = .bool (xs==ys)∧ak=s) (fun _ _=>False):=by
 refine a6.nI jd fun ro B c1 w p aK=>?_
 have b6:=A9 (aK.aN ab);have bW:=A9 (aK.aN ax);refine uK (v := .bool (xs==ys)) ai ?_ ?_ (.bool _)
 ·rw [b6,bW]
  unfold eqGuard pv;simp [aa',bn]
 ·rw [b6,bW]
  have:=gQ.eq xs ys aa ad w;unfold pv at this ⊢;simp only [binOp,aa',this,Result.andThen_ok,Sem.run_pure]
end
section
variable {P:Program} {N:Nat} {ops:Array Oper} {Q:b3→Env→ao→Prop} {env:Env} {s:ao} {l:List Oper} {o:Oper} {d:Nat}
theorem ae.EP {t yt:TypeId} {x y:Operand} {k:IntKind} {n:Nat} {xs ys:List Int} (gQ:sx P t k n) (bn:P.eqGuardType P.depth t=false) (aq:guardOf ops env o=some true) (ay:o.dst=some d) (a1:Nat.blt d N=true) (ai:o.op = .binOp .eql t x y yt) (ab:aN env x=some (ko k xs)) (ax:aN env y=some (ko k ys)) (aa:xs.length=n) (ad:ys.length=n)
  (h:ae P N ops l Q ((d,.bool (xs==ys))::env) s):ae P N ops (o::l) Q env s:=
 ae.op aq ay a1 (a6.EP gQ bn ai ab ax aa ad) (fun x ak ⟨aa,ad⟩=>by subst aa;subst ad;exact h) (fun _ _ h=>h.elim)
end
theorem Cb:sx d0 106 .u64 2:=by
 refine ⟨by kernel_rfl,fun e xs ab w=>?_,fun xs ys ab ax w=>?_⟩
 ·obtain ⟨a,b,rfl⟩:=two ab
  kernel_rfl
 ·obtain ⟨a,b,rfl⟩:=two ab
  obtain ⟨c1,aY,rfl⟩:=two ax;have hint:(d0).underlying 104 = some (.int .u64):=by kernel_rfl
  obtain ⟨info,aS⟩:=info_of_underlying hint;have Bb:=MG (T := 106) (e := 104) (k := .u64) fC aS fC hint (fun a b w=>⟨by kernel_rfl,by kernel_rfl⟩) 9998 a b c1 aY w;have ar:∀ a b:Int,pv .u64 [a,b] = .agg #[.int .u64 a,.int .u64 b]:=fun _ _=>rfl
  rw [ar,ar];unfold Op.equal;exact Bb
theorem PO:(d0).eqGuardType (d0).depth 106 = false:=by kernel_rfl
def jm (p:bN) (n:Int) (l:List av) (an cC cd:Nat) (vs:List Nat) (M:List (List Int×ah)):bb:=[ey p n (ei l) (.aG 1 (ku vs) .bd) an cC cd,(.own an,.map (B7 p n l vs)),(.own cC,.map (mQ .u64 M))]
theorem aaU (p:bN) (n:Int) (l:List av) (an cC cd:Nat) (vs:List Nat) (eM:∀ v∈vs,v<2^l.length) (gB:l.length≤7) (fz:vs.length≤128) (hV:p.methods.length≤16):∀ (k:Nat) (ws:List Nat),ws.length≤k→jl vs ws→∀ M,rV l.length (dp p n l) vs M →
  bI d0 62 [.ptr cd 0,ll (eT ws)] (jm p n l an cC cd vs M) (fun o K=>∃ mm,rV l.length (dp p n l) vs mm∧kR vs M mm (ws.length+1)∧o = .ret (lg (fN l.length (dp p n l) ws))∧K=jm p n l an cC cd vs mm):=by
 have oo:bx=1099511627776:=rfl;have xT:2^l.length≤2^7:=ah6 ag gB;have zs:∀ v∈vs,v<128:=fun v h=>by have:=eM v h;omega
 intro k
 induction k using Nat.strongRecOn with
 | ind k aW=>
 intro ws aA hw M fj;have kz:=fj.len;have Jh:=aam p n l an cC cd vs zs fz hV (eT ws);rw [hw.self] at Jh;have lO:=vl l.length (dp p n l) ws;have pt:=hw.len;refine bI.bl al Tryz.func62 C C fun s I=>?_
 unfold jm ey eu ei ll at *;refine hq I ?_;intro I;refine aL.yM al I (xs:=kc (eT ws)) (es:=M) Cb C C C C C C C C C C kz a' C ?_;cases aX:M.find? (fun e=>e.1==kc (eT ws)) with
 | some e=>
  rw [Option.map_some,fj.find zs hw aX];refine hD ?_;exact Fin.bC I C aT (aJ.all _) ⟨M,fj,kR.refl _ _ _,rfl,rfl⟩
 | none=>
 rw [Option.map_none];refine cl ?_;unfold qu ey eu ei at Jh;refine ae.b4 rfl rfl rfl rfl rfl Jh I ba ?_ (fun _ _ ⟨h,_⟩ _=>by cases h);rintro _ _ ⟨⟨⟩,rfl⟩ I;simp only [f0,ab'] at I ⊢;cases aO:mV (dp p n l) ws with
 | true=>
  rw [aO,f7 C] at lO;rw [f7 C];refine hq I ?_;intro I;refine aL.A' al I (xs:=kc (eT ws)) (es:=M) Cb C C C (.inl C) C C C C C C kz a' aX (fun I=>?_);refine gE ?_;exact Fin.bC (K:=jm p n l an cC cd vs (M++[(kc (eT ws),lg (fN l.length (dp p n l) ws))])) I C aT (by rw [lO];exact (by simp only [jm,ey,eu,ei];exact ba)) ⟨_,fj.add hw,(kR.refl _ _ _).add hw (am3 _),by rw [lO];rfl,rfl⟩
 | false=>
 rw [aO,d7 bc] at lO;rw [d7 bc];obtain ⟨adg,Cc⟩:=Nr (A:=l.length) (h:=dp p n l) (vs:=ws) (fun v h=>eM v (hw.mem h)) aO (fN l.length (dp p n l));rw [Cc,ae4] at lO;refine hq I ?_;intro I;refine af.ck [0,3,50] C I (σ:=Nat×Option bF×List (List Int×ah)) (fun q=>[(51,.int .i64 (q.1:Int)),(9,zq q.2.1)]) (fun q=>jm p n l an cC cd vs q.2.2)
  (fun q=>q.1≤l.length∧rV l.length (dp p n l) vs q.2.2∧kR vs M q.2.2 ws.length∧(∀ t,q.2.1=some t→t.leaves≤128)∧(ah8 l.length).foldl (jQ (fN l.length (dp p n l)) ws) none=(List.range' q.1 (l.length-q.1)).foldl (jQ (fN l.length (dp p n l)) ws) q.2.1) (fun q=>l.length-q.1) (0,none,M)
  ⟨g9 _,fj,kR.refl _ _ _,(fun _ h=>by cases h),by rw [List.range_eq_range'];rfl⟩ (cK C) (by simp only [jm,ey,eu,ei];exact ba) ?_
 rintro ⟨i,out,uj⟩ ⟨aS,xV,vG,gd,aw⟩ I;simp only [jm,ey,eu,ei] at aS xV vG gd aw I ⊢;have Jf:=kR.none zs vG hw aX;have aaV:=xV.len;refine cf ?_;refine af.cond C (fun az=>?_) (fun a7=>?_);rotate_left
 ·have a7:i=l.length:=by simp at a7;omega
  rw [a7,Nat.sub_self,List.range'_zero,av8,Cc] at aw;subst aw;unfold zq;refine tB I ?_;intro I;refine aL.A' al I (xs:=kc (eT ws)) (es:=uj) Cb C C C (.inl C) C C C C C C aaV a' Jf (fun I=>?_);refine gE ?_;exact Fin.bC (K:=jm p n l an cC cd vs (uj++[(kc (eT ws),lg (fN l.length (dp p n l) ws))])) I C aT (by rw [lO];exact (by simp only [jm,ey,eu,ei];exact ba)) ⟨_,xV.add hw,(vG.mono (Nat.le_succ _)).add hw (am3 _),by rw [lO],rfl⟩
 have az:i<l.length:=by simpa using az
 rw [show l.length-i=(l.length-(i+1))+1 by omega,List.range'_succ,ah4] at aw;have gA:jQ (fN l.length (dp p n l)) ws out i=if (e8 i ws).isEmpty||(e9 i ws).isEmpty then out else qf out (.test i (fN l.length (dp p n l) (e9 i ws)) (fN l.length (dp p n l) (e8 i ws))):=rfl
 repeat (first|(refine T3 I ?_;clear I;intro I)|refine ae.dZ al I rfl rfl rfl rfl rfl rfl rfl (fun cB I=>?_))
 obtain ⟨jE,rfl⟩:∃ x,x=cB:=⟨_,rfl⟩;have Ji:(fun u=>eT ((vs.take 0).filter fun v=>v.testBit i) u)=fun _=>false:=rfl
 refine af.ck [0,3,50,51,9,10,11,57,58] C I (σ:=Nat) (fun j=>[(59,.int .i64 (j:Int))]) (fun j=>(.own jE,.box 106 [.int .u64 (f' (fun u=>eT ((vs.take j).filter fun v=>v.testBit i) u) 0 64:Nat),.int .u64 (f' (fun u=>eT ((vs.take j).filter fun v=>v.testBit i) u) 64 64:Nat)])::jm p n l an cC cd vs uj) (fun j=>j≤vs.length) (fun j=>vs.length-j) 0 (g9 _) (cK C) (by
  simp only [Ji,B6 (fun _=>rfl),jm,ey,eu,ei]
  exact ba) ?_
 rintro j aI I;simp only [jm,ey,eu,ei] at aI I ⊢;refine cf ?_;refine af.cond C (fun cT=>?_) (fun a7=>?_)
 ·have cT:j<vs.length:=by simpa [ku] using cT
  obtain ⟨v,ar,kY⟩:=b7 (f:=fun v:Nat=>ah.int .i64 (v:Int)) cT;have Jj:=zs v (d6 ar);have lI:=aaT (i:=i) ar;have ER:=Pw (fun u=>eT ((vs.take j).filter fun v=>v.testBit i) u) v Jj;unfold ll at ER;unfold ku at I ⊢;refine eh ?_;refine ae.shr _ C C C C C C ag (u0 ag) ?_;refine ae.bits _ C C C C C C (Dq (n:=1) (ak3 (aq7 v i) ag) ag) ?_;refine gj ?_;have sr:=I7 v i;cases pb:v.testBit i with
  | true=>
   simp only [pb,f5] at lI;refine af.cond C (fun _=>?_) (fun h=>by rw [sr,pb] at h;cases h);refine hq I ?_;intro I;exact bD.mk (j+1) I cT cA (by simp only [lI];exact ba) zk
  | false=>
   simp only [pb,f6,al9] at lI;refine af.cond C (fun h=>by rw [sr,pb] at h;cases h) (fun _=>?_);refine fV ?_;exact bD.mk (j+1) I cT cA (by simp only [lI];exact ba) zk
 have a7:j=vs.length:=by simp [ku] at a7;omega
 subst a7;rw [af1] at I ⊢;have hand:=Z7 (eT ws) (fun u=>eT (vs.filter fun v=>v.testBit i) u);have Jk:=Z8 (eT ws) (fun u=>eT (vs.filter fun v=>v.testBit i) u);simp only [aaR hw i,aaS hw i] at hand Jk;unfold ll at hand Jk;refine af.mE I 11 jE C .here (fun I=>?_);refine uT ?_;refine af.yq (σ:=Nat×Nat) (fun z=>[(0,.ptr cd 0),(3,.bA [.int .u64 (f' (eT ws) 0 64:Nat),.int .u64 (f' (eT ws) 64 64:Nat)] 0),(50,.int .i64 ((l.map av.cj).length:Int)),(51,.int .i64 (i:Int)),(9,zq out),(10,.int .i64 (i:Int)),(14,.ptr z.1 0),(15,.ptr z.2 0)]) (fun z=>(.own z.1,.box 106 [.int .u64 (f' (eT (e8 i ws)) 0 64:Nat),.int .u64 (f' (eT (e8 i ws)) 64 64:Nat)])::(.own z.2,.box 106 [.int .u64 (f' (eT (e9 i ws)) 0 64:Nat),.int .u64 (f' (eT (e9 i ws)) 64 64:Nat)])::jm p n l an cC cd vs uj) (fun _=>True) ?_ ?_
 ·refine af.r6 al mixed C (bf.run C ?_)
  refine bf.Dg (i:=2) C C C C C C C hand ?_;refine bf.run C ?_;refine bf.Dg (i:=5) C C C C C C C Jk ?_;refine bf.run C ?_;refine bf.many C (hU.c (kh.mk (i:=6) C C C C (a6.dZ al I C C C C (X:=fun _ _=>False)) ?_ (fun _ _ h=>h.elim)) (hU.c (kh.mk (i:=7) C C C C (a6.dZ al I C C C C (X:=fun _ _=>False)) ?_ (fun _ _ h=>h.elim)) hU.n))
  ·rintro _ _ ⟨Cd,rfl,rfl,I⟩
   refine bf.dZ 7 al I C C C C C C C C C (fun rM I=>?_);refine bf.run C ?_;refine bf.cX 8 al I C C C C C C C C C C C a' b5 (fun I=>?_);refine bf.run C ?_;refine bf.cX 9 al I C C C C C C C C C C C a' b5 (fun I=>?_);refine bf.run C ?_;refine bf.done C ?_;exact l3.mk (Cd,rM) I trivial (cK C) (by simp only [jm,ey,eu,ei,ku];exact ba)
  ·rintro _ _ ⟨rM,rfl,rfl,I⟩
   refine bf.dZ 6 al I C C C C C C C C C (fun Cd I=>?_);refine bf.run C ?_;refine bf.cX 8 al I C C C C C C C C C C C a' b5 (fun I=>?_);refine bf.run C ?_;refine bf.cX 9 al I C C C C C C C C C C C a' b5 (fun I=>?_);refine bf.run C ?_;refine bf.done C ?_;exact l3.mk (Cd,rM) I trivial (cK C) (by simp only [jm,ey,eu,ei,ku];exact ba)
 rintro ⟨Cd,rM⟩-I;unfold jm ey eu ei at I ⊢;refine af.mE I 14 Cd C .here (fun I=>?_);refine af.mE I 15 rM C .here (fun I=>?_);have dg:=PM zs (hw.filter fun v=>v.testBit i);have ym:=PM zs (hw.filter fun v => !v.testBit i);rw [show ws.filter (fun v=>v.testBit i)=e8 i ws from rfl] at dg;rw [show ws.filter (fun v => !v.testBit i)=e9 i ws from rfl] at ym;refine kG ?_;refine ae.EP Cb PO (xs:=kc (eT (e8 i ws))) (ys:=[0,0]) C C C C C C C C ?_;rw [dg];cases ES:(e8 i ws).isEmpty with
 | true=>
  rw [gA,ES,am1,f7 C] at aw;refine bK ?_;exact bD.mk (i+1,out,uj) I ⟨az,xV,vG,gd,aw⟩ cA ba BZ
 | false=>
 refine er ?_;refine ae.EP Cb PO (xs:=kc (eT (e9 i ws))) (ys:=[0,0]) C C C C C C C C ?_;rw [ym];cases cP:(e9 i ws).isEmpty with
 | true=>
  rw [gA,ES,cP,ao3,f7 C] at aw;refine bK ?_;exact bD.mk (i+1,out,uj) I ⟨az,xV,vG,gd,aw⟩ cA ba BZ
 | false=>
 rw [gA,ES,cP,d7 bc] at aw;have db:=yZ (i:=i) (vs:=ws) (by rw [ES,cP];rfl);have adh:=DY i ws;have IF:=xr l.length (dp p n l) _ (e8 i ws) (g7 _);have lV:=xr l.length (dp p n l) _ (e9 i ws) (g7 _);have h':=fun M h=>aW (e9 i ws).length ag (e9 i ws) (g7 _) (hw.filter fun v => !v.testBit i) M h
 have ET:=fun M h=>aW (e8 i ws).length ag (e8 i ws) (g7 _) (hw.filter fun v=>v.testBit i) M h
 obtain ⟨adW,adQ,fn,Dm,-,-⟩:=tX (fN l.length (dp p n l) (e9 i ws));obtain ⟨ty,gb,ad1,IW,-,-⟩:=tX (fN l.length (dp p n l) (e8 i ws));simp only [Dm] at h';simp only [IW] at ET;have Ce:(bF.test i (fN l.length (dp p n l) (e9 i ws)) (fN l.length (dp p n l) (e8 i ws))).leaves≤128:=by rw [bF.leaves];omega
 refine c5 ?_;refine af.yq (σ:=List (List Int×ah)×Nat) (fun z=>[(0,.ptr cd 0),(3,.bA [.int .u64 (f' (eT ws) 0 64:Nat),.int .u64 (f' (eT ws) 64 64:Nat)] 0),(50,.int .i64 ((l.map av.cj).length:Int)),(51,.int .i64 (i:Int)),(9,zq out),(10,.int .i64 (i:Int)),(16,.ptr z.2 0)]) (fun z=>(.own z.2,.box 156 [.int .i64 (i:Int),.iface adW adQ,.iface ty gb])::jm p n l an cC cd vs z.1) (fun z=>rV l.length (dp p n l) vs z.1∧kR vs uj z.1 ws.length) ?_ ?_
 ·refine af.r6 al mixed C (bf.run C ?_)
  refine bf.many rfl (hU.c (kh.mk (i:=3) rfl rfl rfl rfl (a6.b4 rfl rfl (h' uj xV) I ba) ?_ (fun x ak h=>by obtain ⟨_,_,_,_,_,_,h,_⟩:=h;cases h)) (hU.c (kh.mk (i:=8) rfl rfl rfl rfl (a6.dZ al I rfl rfl rfl rfl (X:=fun _ _=>False)) ?_ (fun _ _ h=>h.elim)) hU.n))
  ·rintro _ _ ⟨aQ,rfl,I,EU,EV,EW,⟨⟩,rfl⟩
   simp only [f0,ab'] at I ⊢;refine bf.run C ?_;refine bf.many rfl (hU.c (kh.mk (i:=6) rfl rfl rfl rfl (a6.b4 rfl rfl (ET EU EV) I ba) ?_ (fun x ak h=>by obtain ⟨_,_,_,_,_,_,h,_⟩:=h;cases h)) (hU.c (kh.mk (i:=8) rfl rfl rfl rfl (a6.dZ al I rfl rfl rfl rfl (X:=fun _ _=>False)) ?_ (fun _ _ h=>h.elim)) hU.n))
   ·rintro _ _ ⟨aQ,rfl,I,M2,sO,uk,⟨⟩,rfl⟩
    simp only [f0,ab'] at I ⊢;refine bf.run C ?_;refine bf.dZ 8 al I C C C C C C C C C (fun xW I=>?_);refine bf.run C ?_;refine bf.cX 9 al I C C C C C C C C C C C a' b5 (fun I=>?_);refine bf.run C ?_;refine bf.done C ?_;exact l3.mk (M2,xW) I ⟨sO,(EW.mono ag).trans uk ag⟩ (cK C) (by simp only [jm,ey,eu,ei,ku];exact ba)
   ·rintro _ _ ⟨xW,rfl,rfl,I⟩
    refine bf.b4 6 rfl rfl rfl rfl rfl rfl rfl (ET EU EV) I ba ?_ (fun _ _ aj _=>by obtain ⟨_,_,_,h,_⟩:=aj;cases h);rintro _ _ ⟨M2,sO,uk,⟨⟩,rfl⟩ I;simp only [f0,ab'] at I ⊢;refine bf.run C ?_;refine bf.cX 9 al I C C C C C C C C C C C a' b5 (fun I=>?_);refine bf.run C ?_;refine bf.done C ?_;exact l3.mk (M2,xW) I ⟨sO,(EW.mono ag).trans uk ag⟩ (cK C) (by simp only [jm,ey,eu,ei,ku];exact ba)
  ·rintro _ _ ⟨xW,rfl,rfl,I⟩
   refine bf.b4 3 rfl rfl rfl rfl rfl rfl rfl (h' uj xV) I ba ?_ (fun _ _ aj _=>by obtain ⟨_,_,_,h,_⟩:=aj;cases h);rintro _ _ ⟨EU,EV,EW,⟨⟩,rfl⟩ I;simp only [f0,ab'] at I ⊢;refine bf.run C ?_;refine bf.b4 6 rfl rfl rfl rfl rfl rfl rfl (ET EU EV) I ba ?_ (fun _ _ aj _=>by obtain ⟨_,_,_,h,_⟩:=aj;cases h);rintro _ _ ⟨M2,sO,uk,⟨⟩,rfl⟩ I;simp only [f0,ab'] at I ⊢;refine bf.run C ?_;refine bf.cX 9 al I C C C C C C C C C C C a' b5 (fun I=>?_);refine bf.run C ?_;refine bf.done C ?_;exact l3.mk (M2,xW) I ⟨sO,(EW.mono ag).trans uk ag⟩ (cK C) (by simp only [jm,ey,eu,ei,ku];exact ba)
 rintro ⟨M2,xW⟩ ⟨sO,uk⟩ I;unfold jm ey eu ei at I ⊢;refine af.mE I 16 xW C .here (fun I=>?_);cases out with
 | none=>
  unfold zq;refine bK ?_;exact bD.mk (i+1,some (.test i (fN l.length (dp p n l) (e9 i ws)) (fN l.length (dp p n l) (e8 i ws))),M2) I ⟨az,sO,vG.trans uk (g7 _),(fun t h=>by cases h;exact Ce),aw⟩ OY ba BZ
 | some o=>
  obtain ⟨to,aeq,ad4,Jl,-,-⟩:=tX o;have mD:=Xd (.test i (fN l.length (dp p n l) (e9 i ws)) (fN l.length (dp p n l) (e8 i ws))) o ag (by have:=gd o C;omega);rw [lg,Dm,IW,Jl] at mD;have u2:qf (some o) (.test i (fN l.length (dp p n l) (e9 i ws)) (fN l.length (dp p n l) (e8 i ws)))=if (bF.test i (fN l.length (dp p n l) (e9 i ws)) (fN l.length (dp p n l) (e8 i ws))).before o then some (.test i (fN l.length (dp p n l) (e9 i ws)) (fN l.length (dp p n l) (e8 i ws))) else some o:=rfl
  rw [u2] at aw;have sT:zq (some o) = .iface to aeq:=Jl;rw [sT];cases je:(bF.test i (fN l.length (dp p n l) (e9 i ws)) (fN l.length (dp p n l) (e8 i ws))).before o with
  | true=>
   rw [je] at mD;rw [je,f7 C] at aw;refine cl ?_;exact bD.mk (i+1,some (.test i (fN l.length (dp p n l) (e9 i ws)) (fN l.length (dp p n l) (e8 i ws))),M2) I ⟨az,sO,vG.trans uk (g7 _),(fun t h=>by cases h;exact Ce),aw⟩ OY ba BZ
  | false=>
   rw [je] at mD;rw [je,d7 bc] at aw;refine cl ?_;exact bD.mk (i+1,some o,M2) I ⟨az,sO,vG.trans uk (g7 _),gd,aw⟩ (by repeat (first|exact trivial|refine ⟨⟨_,rfl,aT⟩,?_⟩|refine ⟨⟨_,rfl,aZ.of_eq (by (first|rw [kF ag]|exact Jl.symm))⟩,?_⟩)) ba BZ
theorem Jm (g:List bs) (aq:g.length<bx):aV d0 20 [e7 g] (.cr [if fF g then .aG 4 ((small g).map eR) .bd else .aG 0 [] .nil,.int .i64 (if fF g then 0 else 2)]):=by
 have an:=bE;refine aV.bl al Tryz.func20 C C fun s I=>?_
 have aX:=DA g aq;unfold e7 at *;cases gk:fF g with
 | false=>
  rw [gk] at aX;rw [d7 bc,d7 bc];refine cl ?_;exact br I
 | true=>
  rw [gk] at aX;rw [f7 C,f7 C];have au:=Ot g (rJ gk);refine cl ?_;refine ae.b4 rfl rfl rfl rfl rfl au I .nil ?_ (fun _ _ ⟨h,_⟩ _=>by cases h);rintro _ _ ⟨⟨⟩,rfl⟩ I;simp only [f0] at I ⊢;refine ep ?_;exact br I
def Cf (p:bN) (n:Int):ah := .cr [if fq p n=0 then .aG 4 ((small (bF.laid [] (tV p n))).map eR) .bd else .aG 0 [] .nil,.int .i64 (fq p n)]
theorem Jn (p:bN) (aF:gx p) (n:Int):aV d0 13 [cD p,.int .i64 n] (Cf p n):=by
 have an:=bE;refine aV.bl al Tryz.func13 C C fun s I=>?_
 have aO:=BJ p aF n;unfold Cf;unfold cD cI at *;refine dS ?_;refine ae.b4 rfl rfl rfl rfl rfl aO I .nil ?_ (fun _ _ h _=>by rcases h with ⟨_,_,_,_,h,_⟩|⟨_,⟨_,h⟩,_⟩<;>cases h);rintro _ _ (⟨he,cd,an,cC,⟨⟩,rfl⟩|⟨he,⟨v,⟨⟩⟩,rfl⟩) I
 ·rw [he,f7 C,Bm]
  obtain ⟨ec,gB,cx,ez,fJ⟩:=rS he;have xT:2^(cy p n).length≤2^7:=ah6 ag gB;have lL:=I9 p aF ec n (cy p n) an cC cd gB cx ez fJ;have fz:=EK (bY p) (cy p n);have eM:∀ v∈h9 (bY p) (cy p n),v<2^(cy p n).length:=fun v h=>Ja h
  have vu:=(vt ec).1;generalize bM:cy p n=l at *;generalize Jo:h9 (bY p) l=vs at *;have Cc:=aaU p n l an cC cd vs eM gB ag vu vs.length vs (g7 _) (jl.all vs) [] (fun _ h=>by cases h);have qL:=xr l.length (dp p n l) _ vs (g7 _);have Cg:=BP (P:=fun ms=>ms.length≤16) l.length (dp p n l) bc (fun v=>by have:=zb n l v p.methods 0;unfold dp;omega) _ vs (g7 _);generalize fN l.length (dp p n l) vs=t at *;have PQ:=Xe t [] none C cL;have lz:=Oh Cg ag;have aaW:=Ot _ lz;simp only [ab',f0] at I ⊢;unfold ey eu ei at *;refine bK ?_;refine ae.b4 rfl rfl rfl rfl rfl lL I ba ?_ (fun _ _ ⟨h,_⟩ _=>by cases h);rintro _ _ ⟨⟨⟩,rfl⟩ I;simp only [ab',f0] at I ⊢
  repeat (first|(refine T4 I ?_;clear I;intro I)|refine ae.dZ al I rfl rfl rfl rfl rfl rfl rfl (fun cB I=>?_))
  obtain ⟨aei,rfl⟩:∃ x,x=cB:=⟨_,rfl⟩;have Ji:eT (vs.take 0)=fun _=>false:=rfl
  refine af.ck [6,8,27,28] C I (σ:=Nat) (fun j=>[(29,.int .i64 (j:Int))]) (fun j=>(.own aei,.box 106 [.int .u64 (f' (eT (vs.take j)) 0 64:Nat),.int .u64 (f' (eT (vs.take j)) 64 64:Nat)])::jm p n l an cC cd vs []) (fun j=>j≤vs.length) (fun j=>vs.length-j) 0 (g9 _) (cK C) (by
   simp only [Ji,B6 (fun _=>rfl),jm,ey,eu,ei]
   exact ba) ?_
  rintro j aI I;simp only [jm,ey,eu,ei,ku] at aI I ⊢;refine cf ?_;refine af.cond C (fun az=>?_) (fun a7=>?_)
  ·have az:j<vs.length:=by simpa using az
   obtain ⟨v,ar,kY⟩:=b7 (f:=fun v:Nat=>ah.int .i64 (v:Int)) az;have Jj:v<128:=by have:=eM v (d6 ar);omega
   have ER:=Pw (eT (vs.take j)) v Jj;have e4:(fun u=>eT (vs.take j) u||u==v)=eT (vs.take (j+1)):=by
    funext u;rw [an3,ar];unfold eT;rw [ao0];congr 1;simp;rfl
   rw [e4] at ER;unfold ll at ER;refine hq I ?_;intro I;exact bD.mk (j+1) I az cA ba zk
  have a7:j=vs.length:=by simp at a7;omega
  subst a7;rw [af1] at I ⊢;unfold jm ey eu ei ll ku at Cc;unfold j' jC at PQ;refine ct I ?_;intro I;refine ae.b4 rfl rfl rfl rfl rfl Cc I ba ?_ (fun _ _ h _=>by obtain ⟨_,_,_,h,_⟩:=h;cases h);rintro _ _ ⟨mm,-,-,⟨⟩,rfl⟩ I;simp only [ab',f0] at I ⊢;skip;refine ae.b4 rfl rfl rfl rfl rfl PQ I .nil ?_ (fun _ _ h _=>by obtain ⟨_,_,h,_⟩:=h;cases h);rintro _ _ ⟨bt,db,⟨⟩,rfl⟩ I;have q3:=qh t [];have pg:=t.pB;rcases bt with _|⟨g2,gw,gg⟩
  ·have bo:bF.laid [] t=[]:=db
   rw [bo] at q3;simp at q3;omega
  obtain ⟨fr,gD,hB⟩:=db;simp only [ab',f0] at I ⊢;refine ae.run al C ?_;refine ae.nil ?_;refine uT ?_;refine af.IH I 11 g2 C a' hB (by rw [f8]) (pC _) gD (by have:=lz.len;omega) (fun I=>?_);rw [← Ep];refine kG ?_;refine ae.b4 rfl rfl rfl rfl rfl aaW I .nil ?_ (fun _ _ ⟨h,_⟩ _=>by cases h);rintro _ _ ⟨⟨⟩,rfl⟩ I;simp only [ab',f0] at I ⊢;refine ep ?_;exact br I
 ·rw [d7 he]
  simp only [f0] at I ⊢;refine et ?_;refine af.cond C (fun _=>?_) (fun h=>absurd hx he);refine gE ?_;exact br I
def zt (c:Int):av := .mk 2 0 [] c 0 []
def mn:bN:=⟨[⟨[],[],[]⟩,⟨[3],[],[]⟩,⟨[],[],[]⟩],0,[1],[⟨1,0,zt 3,0⟩,⟨1,0,zt 4,1⟩,⟨1,0,.mk 6 0 [] 0 0 [zt 1,.mk 3 0 [] 0 5 []],2⟩],[⟨2,0,[]⟩,⟨2,0,[]⟩,⟨2,0,[]⟩,⟨2,0,[]⟩],3⟩
def pI:List bs:=[⟨0,1,4,[]⟩,⟨3,2,3,[]⟩,⟨-1,0,0,[]⟩,⟨-1,0,0,[2]⟩,⟨1,5,6,[]⟩,⟨-1,0,0,[0]⟩,⟨-1,0,0,[0,1]⟩]
theorem PR:fq mn 0=0:=by kernel_rfl
theorem aaX:h9 (bY mn) (cy mn 0)=[0,1,3,4,12]:=by kernel_rfl
theorem aaY:B8 mn 0 3=0:=by kernel_rfl
theorem aaZ:dp mn 0 (cy mn 0) 3=[0,1]:=by kernel_rfl
theorem aa0:B8 mn 0 2=5:=by kernel_rfl
theorem aa1:small (bF.laid [] (tV mn 0))=pI:=by kernel_rfl
theorem aa2:s5 mn [] 0 [(1,4)] pI=0:=by kernel_rfl
theorem aa3:leads pI (ln mn [] 0 [(1,4)])=(3,2):=by kernel_rfl
theorem aa4:fi pI=2:=by kernel_rfl
theorem aa5:fF pI=true:=by kernel_rfl
theorem aa6:small [⟨0,1,2,[]⟩,⟨-1,0,0,[]⟩,⟨-1,0,0,[]⟩]=[⟨0,1,1,[]⟩,⟨-1,0,0,[]⟩]:=by kernel_rfl
theorem aa7:fF [⟨0,1,2,[]⟩,⟨-1,0,0,[]⟩,⟨-1,0,0,[]⟩]=true:=by kernel_rfl
theorem Jp (c:Int):aV d0 50 [.int .i64 c] ((zt c).cj):=by
 have an:=bE;refine aV.bl al Tryz.func50 C C fun s I=>?_
 rw [av.cG];unfold zt av.cells
 repeat (first|(refine T5 I ?_;clear I;intro I)|refine ae.dZ al I rfl rfl rfl rfl rfl rfl rfl (fun cB I=>?_))
 refine Fin.cE I (p3 C C (bp.get a' I) C) ?_
 repeat (first|exact aT|exact aZ.empty|exact aZ.bd|refine aZ.agg ?_|refine aZ.aG ?_|exact cS.nil|refine cS.cons ?_ ?_)
theorem aa8 (u:Unit):aV d0 67 [] (e7 pI):=by
 have an:=bE;refine aV.bl al Tryz.func67 C C fun s I=>?_
 unfold e7;refine gE ?_;refine Fin.cE I C ?_;unfold pI;simp only [ae0,ag7,eR,gO,bj,bg]
 repeat (first|exact aT|exact aZ.empty|exact aZ.bd|refine aZ.agg ?_|refine aZ.aG ?_|exact cS.nil|refine cS.cons ?_ ?_)
theorem aa9 (u:Unit):aV d0 51 [] (cD mn):=by
 have an:=bE;refine aV.bl al Tryz.func51 C C fun s I=>?_
 have aa:=Jp 1;have aj:=Jp 3;have a8:=Jp 4;rw [av.cG] at aa aj a8;unfold av.cells at aa aj a8
 repeat (first|(refine T6 I ?_;clear I;intro I)|refine ae.dZ al I rfl rfl rfl rfl rfl rfl rfl (fun cB I=>?_)|(refine T7 I ?_;clear I;intro I))
 refine Fin.cE I (p3 C C (bp.get a' I) C) ?_;unfold mn cD cI;simp only [ae0,ag7,mJ,oA,jg,nk,jh,k7,bj,bg,av.path,av.op,av.arg,av.cls,av.n,av.kids,av.cG,av.cells,zt]
 repeat (first|exact aT|exact aZ.empty|exact aZ.bd|refine aZ.agg ?_|refine aZ.aG ?_|exact cS.nil|refine cS.cons ?_ ?_)
theorem Ch:gx mn:=⟨by decide,by decide,by decide,by decide,by decide,by decide,by decide⟩
theorem PS (u:Unit):aV d0 16 [] (.bool true):=by
 have an:=bE;have aa:=aa9 ();have ad:=aaj mn Ch 0;have aj:=PB mn Ch 0 3;have a8:=PB mn Ch 0 2;have bB:=Jn mn Ch 0;have gp:=PK mn Ch 0 [] [(1,4)] dV (fun _ h=>by cases h) dV pI dV;have ia:=AU pI dV;have p9:=Jm [⟨0,1,2,[]⟩,⟨-1,0,0,[]⟩,⟨-1,0,0,[]⟩] dV;have dj:=aa8 ();have s1:=Du [0,1,3,4,12] [0,1,3,4,12] dV dV;have s2:=Du [0,1] [0,1] dV dV;have Jq:=Du [2] [2] dV dV;have g1:=OE pI pI dV dV dV dV;have g2:=OE [⟨0,1,1,[]⟩,⟨-1,0,0,[]⟩] [⟨0,1,1,[]⟩,⟨-1,0,0,[]⟩] dV dV dV dV;unfold Jb at ad;rw [PR,f7 C,aaX] at ad;unfold Jd at aj a8;rw [aaY,f7 C,show ((3:Int).toNat)=3 from rfl,aaZ] at aj;rw [aa0,d7 dV] at a8;unfold Cf at bB;rw [PR,f7 C,aa1] at bB;unfold EO at gp;rw [aa2,f7 C,f7 C,aa3] at gp;rw [aa5,f7 C,f7 C,aa4] at ia;rw [aa7,f7 C,f7 C,aa6] at p9;rw [show (([0,1,3,4,12]:List Int)==[0,1,3,4,12])=true from rfl] at s1;rw [show (([0,1]:List Int)==[0,1])=true from rfl] at s2;rw [show (([2]:List Int)==[2])=true from rfl] at Jq;rw [show (pI==pI)=true from rfl] at g1;rw [show (([⟨0,1,1,[]⟩,⟨-1,0,0,[]⟩]:List bs)==[⟨0,1,1,[]⟩,⟨-1,0,0,[]⟩])=true from rfl] at g2;refine aV.bl al Tryz.func16 C C fun s I=>?_
 unfold cD cI at *;refine ft ?_;refine ae.k5 C C C C C s1 (.cons (aZ.of_eq C) (.one aZ.bd)) ?_;refine er ?_;refine ae.k5 C C C C C s2 (.cons (aZ.of_eq C) (.one aZ.bd)) ?_;refine pd ?_;refine aL.k5 C C C C C gp (.cons aT (.cons aZ.empty (.cons aT (.cons aZ.bd (.one aT))))) ?_;refine c5 ?_
 refine ae.k5 C C C C C p9 (.one (by
  unfold e7
  simp only [ae0,ag7,eR,gO,bj,bg]
  repeat (first|exact aT|exact aZ.empty|exact aZ.bd|refine aZ.agg ?_|refine aZ.aG ?_|exact cS.nil|refine cS.cons ?_ ?_))) ?_
 refine c5 ?_
 refine ae.k5 C C C C C g2 (.cons (aZ.of_eq C) (.one (by
  unfold e7
  simp only [ae0,ag7,eR,gO,bj,bg]
  repeat (first|exact aT|exact aZ.empty|exact aZ.bd|refine aZ.agg ?_|refine aZ.aG ?_|exact cS.nil|refine cS.cons ?_ ?_)))) ?_
 refine ep ?_;exact br I
def Ci (g:List bs):Bool:=decide (g.length>400)||g.any (fun x=>decide (x.ms.length>40))
theorem PT (g:List bs) (aq:g.length<bx):aV d0 17 [e7 g] (.bool (Ci g)):=by
 have an:=bE;refine aV.bl al Tryz.func17 C C fun s I=>?_
 have bM:Ci g=(decide (g.length>400)||g.any (fun x=>decide (x.ms.length>40))):=rfl;unfold e7;refine cf ?_;refine af.cond C (fun h=>?_) (fun h=>?_)
 ·rw [show decide (g.length>400)=true by simp at h ⊢;omega,am1] at bM
  rw [bM];refine gE ?_;exact br I
 rw [show decide (g.length>400)=false by simp at h ⊢;omega,ah2] at bM;rw [bM];refine jL ?_;refine af.ck [0] C I (σ:=Nat) (fun j=>[(3,.int .i64 (j:Int))]) (fun _=>[]) (fun j=>j≤g.length∧g.any (fun x=>decide (x.ms.length>40))=(g.drop j).any (fun x=>decide (x.ms.length>40))) (fun j=>g.length-j) 0 ⟨g9 _,rfl⟩ (cK C) .nil ?_;rintro j ⟨aI,aw⟩ I
 try simp only at aI aw I ⊢
 refine cf ?_;refine af.cond C (fun az=>?_) (fun a7=>?_);rotate_left
 ·have a7:j=g.length:=by simp at a7;omega
  rw [eE ag,List.any_nil] at aw;rw [aw];refine ew ?_;exact br I
 have az:j<g.length:=by simpa using az
 obtain ⟨x,ab,ch⟩:=b7 (f:=eR) az;rw [drop_cons ab,ak7] at aw;unfold eR gO bj at ch;refine eh ?_;refine af.cond C (fun aD=>?_) (fun aD=>?_)
 ·rw [show decide (x.ms.length>40)=true by simp at aD ⊢;omega,am1] at aw
  rw [aw];refine jK ?_;exact br I
 ·rw [show decide (x.ms.length>40)=false by simp at aD ⊢;omega,ah2] at aw
  refine fV ?_;exact bD.mk (j+1) I ⟨az,aw⟩ cA .nil uU
def mo (p:bN) (n:Int):List bs:=small (bF.laid [] (tV p n))
theorem Jr {p:bN} (n:Int) (he:fq p n=0):kP (bF.laid [] (tV p n)):=by
 rw [Bm];obtain ⟨ec,gB,cx,ez,fJ⟩:=rS he;have xT:2^(cy p n).length≤2^7:=ah6 ag gB;have fz:=EK (bY p) (cy p n);have qL:=xr (cy p n).length (dp p n (cy p n)) _ (h9 (bY p) (cy p n)) (g7 _);have Cg:=BP (P:=fun ms=>ms.length≤16) (cy p n).length (dp p n (cy p n)) bc (fun v=>by have:=zb n (cy p n) v p.methods 0;have:=(vt ec).1;unfold dp;omega) _ (h9 (bY p) (cy p n)) (g7 _);exact Oh Cg ag
def zu (w:bz) (L:List cv):Prop:=L.length<4096∧pG w L
theorem zu.at {w:bz} {L:List cv} (h:zu w L) {x:cv} (ab:x∈L):x.1.cU=true∧x.1.path.length≤2 ∧ -1000000000≤x.1.n∧x.1.n≤1000000000∧(x.1.op=2→0≤x.1.cls∧x.1.cls<3+(w.ps.length:Int)):=by
 obtain ⟨aB,aC⟩:=h.2 x ab;refine ⟨aC,(DI aB aC).1,?_⟩;simp only [hM,aC,ag5,f4,g6] at aB;have ad:=aB.2.2.2.2.2.2.2;unfold j3 at ad;by_cases aj:x.1.op=2
 ·rw [f7 aj] at ad
  simp only [f4,g6] at ad;exact ⟨by omega,by omega,fun _=>ad.2⟩
 ·rw [d7 aj] at ad
  simp only [f4,g6] at ad;exact ⟨by omega,by omega,fun h=>absurd h aj⟩
theorem zu.on {w:bz} {L:List cv} (h:zu w L) (arg:Int) (path:List Int):zu w (gf L arg path):=
 ⟨ak3 (aj8 _ _) h.1,fun x ab=>h.2 x (ag3.1 ab).1⟩
theorem Js {a b:Int} {p q:List Int} (aF:p.length≤2) (bn:q.length≤2) (h:bu a p=bu b q):a=b∧p=q:=by
 unfold bu at h;simp only [as6.injEq,and_true] at h;obtain ⟨aa,ad,aj,a8⟩:=h;refine ⟨aa,?_⟩
 match p,q,aF,bn with
 | [],[],_,_=>rfl
 | [x],[y],_,_=>simp at aj;rw [aj]
 | [x,qE],[y,No],_,_=>simp at aj a8;rw [aj,a8]
 | [],[_],_,_=>simp at ad
 | [],[_,_],_,_=>simp at ad
 | [_],[],_,_=>simp at ad
 | [_],[_,_],_,_=>simp at ad
 | [_,_],[],_,_=>simp at ad
 | [_,_],[_],_,_=>simp at ad
def dn.core (k:dn):dn:={ k with gz:=false,bm:=[] }
theorem aba (k:dn) (b:Bool):(k.need b).core=k.core:=rfl
theorem PU (k:dn) (s:Int):(k.slot s).core=k.core:=rfl
theorem abb (k:dn) (x:cv):(k.ask x).core=k.core.ask x:=by
 unfold dn.ask dn.core
 repeat' split
 all_goals rfl
theorem abc (k:dn) (x:cv):(k.ask x).gz=k.gz:=by
 unfold dn.ask
 repeat' split
 all_goals rfl
theorem um (σ:dP) (sp:List Int) (k:dn) (q:List Int):(σ.hW sp k) q=if q=sp then k else σ q:=rfl
theorem zv (neg:Bool) (arg:Int) (path:List Int):∀ (j:Nat) (σ:dP) (q:List Int),((hd neg arg path j σ) q).core=(σ q).core
  | 0,σ,q=>by
    rw [hd,um];split
    · rename_i h;subst h;rfl
    · rfl
  | j+1,σ,q=>by
    rw [hd];simp only [um];by_cases aa:q=bu arg (path.take (j+1))
    · rw [f7 aa,aba]
      split
      · rename_i ad;rw [PU,zv,aa,ad]
      · rw [zv,aa]
    · rw [d7 aa]
      split
      · rename_i ad;rw [PU,zv,ad]
      · rw [zv]
theorem PV (neg:Bool) (arg:Int) (path:List Int) (q:List Int):∀ (j:Nat) (σ:dP),(((hd neg arg path j σ) q).gz=true↔(σ q).gz=true∨neg=false∧∃ i,i≤j∧q=bu arg (path.take i))
  | 0,σ=>by
    rw [hd,um];by_cases h:q=bu arg []
    · rw [f7 h]
      unfold dn.need;simp only [ah5,ai3];rw [h];constructor
      · rintro (aa|aa)
        · exact .inl aa
        · exact .inr ⟨aa,0,g7 _,by simp⟩
      · rintro (aa|⟨aa,_⟩)
        · exact .inl aa
        · exact .inr aa
    · rw [d7 h]
      constructor
      · exact .inl
      · rintro (aa|⟨_,i,aS,aa⟩)
        · exact aa
        · exact absurd (by rw [aa,show i=0 by omega];simp) h
  | j+1,σ=>by
    have aW:=PV neg arg path q j σ;rw [hd];simp only [um];by_cases h:q=bu arg (path.take (j+1))
    · rw [f7 h]
      unfold dn.need;simp only [ah5,ai3];have e:∀ k:dn,(k.slot (path.getD j 0)).gz=k.gz:=fun k=>rfl
      have:(if bu arg (path.take (j+1))=bu arg (path.take j) then ((hd neg arg path j σ) (bu arg (path.take j))).slot (path.getD j 0) else (hd neg arg path j σ) (bu arg (path.take (j+1)))).gz=((hd neg arg path j σ) q).gz:=by
        split
        · rename_i ad;rw [e,h,ad]
        · rw [h]
      rw [this,aW];constructor
      · rintro ((aa|⟨aa,i,aS,ad⟩)|aa)
        · exact .inl aa
        · exact .inr ⟨aa,i,by omega,ad⟩
        · exact .inr ⟨aa,j+1,g7 _,h⟩
      · rintro (aa|⟨aa,_⟩)
        · exact .inl (.inl aa)
        · exact .inr aa
    · rw [d7 h]
      have:(if q=bu arg (path.take j) then ((hd neg arg path j σ) (bu arg (path.take j))).slot (path.getD j 0) else (hd neg arg path j σ) q).gz=((hd neg arg path j σ) q).gz:=by
        split
        · rename_i ad;rw [← ad];rfl
        · rfl
      rw [this,aW];constructor
      · rintro (aa|⟨aa,i,aS,ad⟩)
        · exact .inl aa
        · exact .inr ⟨aa,i,by omega,ad⟩
      · rintro (aa|⟨aa,i,aS,ad⟩)
        · exact .inl aa
        · rcases ap0 i (j+1) with aj|aj
          · exact .inr ⟨aa,i,by omega,ad⟩
          · exact absurd (by rw [ad,show i=j+1 by omega]) h
theorem PW (neg:Bool) (arg:Int) (path:List Int) (q:List Int) (s:Int):∀ (j:Nat) (σ:dP),(s∈((hd neg arg path j σ) q).bm↔s∈(σ q).bm∨∃ i,i<j∧q=bu arg (path.take i)∧s=path.getD i 0)
  | 0,σ=>by
    rw [hd,um];have:(if q=bu arg [] then (σ (bu arg [])).need neg else σ q).bm=(σ q).bm:=by
      split
      · rename_i h;rw [h];rfl
      · rfl
    rw [this];constructor
    · exact .inl
    · rintro (h|⟨i,h,_⟩)
      · exact h
      · omega
  | j+1,σ=>by
    have aW:=PW neg arg path q s j σ;rw [hd];simp only [um]
    have e:(if q=bu arg (path.take (j+1)) then (if bu arg (path.take (j+1))=bu arg (path.take j) then ((hd neg arg path j σ) (bu arg (path.take j))).slot (path.getD j 0) else (hd neg arg path j σ) (bu arg (path.take (j+1)))).need neg
        else (if q=bu arg (path.take j) then ((hd neg arg path j σ) (bu arg (path.take j))).slot (path.getD j 0) else (hd neg arg path j σ) q)).bm=(if q=bu arg (path.take j) then ((hd neg arg path j σ) q).slot (path.getD j 0) else (hd neg arg path j σ) q).bm:=by
      by_cases h:q=bu arg (path.take (j+1))
      · rw [f7 h,h]
        show (if _ then _ else _:dn).bm=_;split
        · rename_i ad;rw [ad]
        · rfl
      · rw [d7 h]
        split
        · rename_i ad;rw [ad]
        · rfl
    rw [e];by_cases h:q=bu arg (path.take j)
    · rw [f7 h]
      show s∈nn _ _↔_;rw [Mf,aW];constructor
      · rintro (aa|aa|⟨i,aS,aa,ad⟩)
        · exact .inr ⟨j,am3 _,h,aa⟩
        · exact .inl aa
        · exact .inr ⟨i,by omega,aa,ad⟩
      · rintro (aa|⟨i,aS,aa,ad⟩)
        · exact .inr (.inl aa)
        · rcases ap0 i j with aj|aj
          · exact .inr (.inr ⟨i,aj,aa,ad⟩)
          · rw [show i=j by omega] at ad;exact .inl ad
    · rw [d7 h,aW]
      constructor
      · rintro (aa|⟨i,aS,aa,ad⟩)
        · exact .inl aa
        · exact .inr ⟨i,by omega,aa,ad⟩
      · rintro (aa|⟨i,aS,aa,ad⟩)
        · exact .inl aa
        · rcases ap0 i j with aj|aj
          · exact .inr ⟨i,aj,aa,ad⟩
          · exact absurd (by rw [aa,show i=j by omega]) h
theorem pG.path {w:bz} {L:List cv} (h:pG w L):∀ x∈L,x.1.path.length≤2:=fun x ab=>(DI (h x ab).1 (h x ab).2).1
theorem abd (σ:dP) (x:cv) (q:List Int):((addLit σ x) q).core=if q=bu x.1.arg x.1.path then (σ q).core.ask x else (σ q).core:=by
 unfold addLit;rw [um];split
 ·rename_i h;rw [abb,zv,h]
 ·rw [zv]
theorem abe (σ:dP) (x:cv) (q:List Int):((addLit σ x) q).gz=true↔(σ q).gz=true∨x.2=false∧∃ i,i≤x.1.path.length∧q=bu x.1.arg (x.1.path.take i):=by
 rw [← PV];unfold addLit;rw [um];split
 ·rename_i h;rw [abc,h]
 ·rfl
theorem abf (σ:dP) (x:cv) (q:List Int) (s:Int):s∈((addLit σ x) q).bm↔s∈(σ q).bm∨∃ i,i<x.1.path.length∧q=bu x.1.arg (x.1.path.take i)∧s=x.1.path.getD i 0:=by
 rw [← PW x.2];unfold addLit;rw [um];split
 ·rename_i h;rw [Mg,h]
 ·rfl
theorem zw {x:cv} {arg:Int} {path:List Int}:vE arg path x=true↔x.1.arg=arg∧path.length≤x.1.path.length∧x.1.path.take path.length=path:=by
 unfold vE Pa;simp
theorem abg {x:cv} {arg:Int} {path:List Int} (ab:x.1.path.length≤2) (aF:path.length≤2):(∃ i,i≤x.1.path.length∧bu arg path=bu x.1.arg (x.1.path.take i))↔vE arg path x=true:=by
 rw [zw];constructor
 ·rintro ⟨i,aS,h⟩
  obtain ⟨aa,ad⟩:=Js aF vP h;have aC:path.length=i:=by rw [ad,ae9];omega
  exact ⟨aa.symm,by omega,by rw [aC];exact ad.symm⟩
 ·rintro ⟨aa,ad,aj⟩
  exact ⟨path.length,ad,by rw [aa,aj]⟩
theorem PX:∀ (l:List Int) (i:Nat),i<l.length→l.take (i+1)=l.take i++[l.getD i 0]:=fun l i aS=>by
 rw [an3,d5,d8 aS];rfl
theorem abh {x:cv} {arg s:Int} {path:List Int} (ab:x.1.path.length≤2) (aF:path.length≤2):(∃ i,i<x.1.path.length∧bu arg path=bu x.1.arg (x.1.path.take i)∧s=x.1.path.getD i 0)↔vE arg (path++[s]) x=true:=by
 rw [zw,f9,List.length_singleton];constructor
 ·rintro ⟨i,aS,h,rfl⟩
  obtain ⟨aa,ad⟩:=Js aF vP h;have aC:path.length=i:=by rw [ad,ae9];omega
  exact ⟨aa.symm,by omega,by rw [aC,PX _ _ aS,← ad]⟩
 ·rintro ⟨aa,ad,aj⟩
  rw [PX _ _ ag] at aj;obtain ⟨a8,bB⟩:=List.append_inj' aj rfl;exact ⟨path.length,by omega,by rw [aa,a8],(as6.inj bB).1.symm⟩
theorem exists_cons {q:cv→Prop} {x:cv} {r:List cv}:(∃ y∈x::r,q y)↔q x∨∃ y∈r,q y:=by simp
section
variable {w:bz} {arg:Int} {path:List Int} (aF:path.length≤2)
include aF
theorem PY:∀ (L:List cv) (σ:dP),pG w L→((L.foldl addLit σ) (bu arg path)).core=(gf L arg path).foldl dn.ask (σ (bu arg path)).core
  | [],σ,_=>rfl
  | x::r,σ,h=>by
    rw [ah4,PY r _ (fun y ax=>h y (i0 _ ax)),abd];unfold gf;rw [al5];have ab:=h.path x i6;by_cases e:zn arg path x=true
    · rw [f7 e]
      unfold zn at e;simp only [f4,g6,am5] at e;rw [f7 (by rw [e.1,e.2]),ah4]
    · rw [d7 e,d7]
      intro ad;obtain ⟨aj,a8⟩:=Js aF ab ad;exact e (by unfold zn;simp [aj,a8])
theorem PZ:∀ (L:List cv) (σ:dP),pG w L→(((L.foldl addLit σ) (bu arg path)).gz=true↔(σ (bu arg path)).gz=true∨∃ x∈L,x.2=false∧vE arg path x=true)
  | [],σ,_=>by simp
  | x::r,σ,h=>by
    rw [ah4,PZ r _ (fun y ax=>h y (i0 _ ax)),abe,abg (h.path x i6) aF,or_assoc,exists_cons]
theorem P0 (s:Int):∀ (L:List cv) (σ:dP),pG w L→(s∈((L.foldl addLit σ) (bu arg path)).bm↔s∈(σ (bu arg path)).bm∨∃ x∈L,vE arg (path++[s]) x=true)
  | [],σ,_=>by simp
  | x::r,σ,h=>by
    rw [ah4,P0 s r _ (fun y ax=>h y (i0 _ ax)),abf,abh (h.path x i6) aF,or_assoc,exists_cons]
variable {L:List cv} (bM:pG w L)
include bM
theorem P1:((ek L) (bu arg path)).gz = !mj L arg path:=by
 rw [af0];unfold ek mj;rw [PZ aF L w3 bM];simp [w3,iW]
theorem EX (s:Int):s∈((ek L) (bu arg path)).bm↔rR L arg path s=true:=by
 unfold ek rR;rw [P0 aF s L w3 bM];simp [w3,iW]
omit aF in
theorem Cj {s:Int} (h:rR L arg path s=true):0≤s∧s<(w.owner.length:Int)∧(path++[s]).length≤2:=by
 unfold rR at h;obtain ⟨x,ab,h⟩:=af4.1 h;obtain ⟨-,ad,aj⟩:=zw.1 h;obtain ⟨a8,bB⟩:=DI (bM x ab).1 (bM x ab).2;have hm:s∈x.1.path:=List.mem_of_mem_take (by rw [aj];simp);have:=bB s hm;exact ⟨this.1,this.2,by omega⟩
theorem Jt {s:Int}:s∈n8 w.owner.length L arg path↔s∈((ek L) (bu arg path)).bm:=by
 rw [EX aF bM];unfold n8;simp only [af8,ag3,aj2];constructor
 ·rintro ⟨n,⟨-,h⟩,rfl⟩;exact h
 ·intro h
  have:=Cj bM h;exact ⟨s.toNat,⟨by omega,by rw [show ((s.toNat:Nat):Int)=s by omega];exact h⟩,by omega⟩
theorem abi:vF w.owner.length L arg path=Bf (ek L) arg path:=by
 unfold vF Bf;rw [af0,af5,af5];constructor <;>
 ·intro h s au
  have hK:=au
  first|rw [Jt aF bM] at au|rw [← Jt aF bM] at au
  have fo:rR L arg path s=true:=by
   first|exact (EX aF bM s).1 au|exact (EX aF bM s).1 hK
  have ad:=P1 (arg:=arg) (Cj bM fo).2.2 bM;have aa:=h s au;rw [ad] at *;simpa using aa
end
def vH (x:cv):Bool:=decide (x.1.op=2)&&(decide (x.1.cls>1) != x.2)
theorem P2:∀ (l:List cv) (k:dn),s0 l (k.low,k.high,k.e3)=if l.any vH then none else some ((l.foldl dn.ask k).low,(l.foldl dn.ask k).high,(l.foldl dn.ask k).e3)
  | [],k=>rfl
  | x::r,k=>by
    have aW:=P2 r (k.ask x);rw [s0,ak7,ah4];by_cases ad:x.1.op=2
    · have e:vH x=(decide (x.1.cls>1) != x.2):=by unfold vH;rw [g8 ad,f5]
      rw [f7 ad,e];have b6:(k.ask x).low=k.low:=by unfold dn.ask;rw [f7 ad];split<;>rfl
      have bW:(k.ask x).high=k.high:=by unfold dn.ask;rw [f7 ad];split<;>rfl
      have eN:(k.ask x).e3=k.e3:=by unfold dn.ask;rw [f7 ad];split<;>rfl
      rw [b6,bW,eN] at aW;cases an:(decide (x.1.cls>1) != x.2) with
      | true=>simp
      | false=>rw [ah2,d7 bc,aW]
    · have e:vH x=false:=by unfold vH;rw [i8 ad,f6]
      rw [d7 ad,e,ah2,← aW];unfold dn.ask;rw [d7 ad];split
      · split<;>rfl
      · split<;>rfl
theorem P3:∀ (k:Nat) (n:Int) (l:List Int),zo k n l=qe k n l
 | 0,_,_=>rfl
 | k+1,n,l=>by rw [zo,qe,P3 k]
theorem P4:∀ (l:List cv) (k:dn) (c:Nat),(l.foldl dn.ask k).fY.testBit c=(k.fY.testBit c||l.any fun x=>decide (x.1.op=2)&&(!x.2&&decide (x.1.cls.toNat=c)))
  | [],k,c=>by simp
  | x::r,k,c=>by
    rw [ah4,P4 r,ak7,← ar6];congr 1;unfold dn.ask;by_cases ad:x.1.op=2
    · rw [f7 ad,g8 ad,f5]
      cases x.2 with
      | true=>simp
      | false=>simp [al7,ak6]
    · rw [d7 ad,i8 ad,f6,al9]
      repeat' split
      all_goals rfl
theorem P5:∀ (l:List cv) (k:dn) (c:Nat),(l.foldl dn.ask k).no.testBit c=(k.no.testBit c||l.any fun x=>decide (x.1.op=2)&&(x.2&&decide (x.1.cls.toNat=c)))
  | [],k,c=>by simp
  | x::r,k,c=>by
    rw [ah4,P5 r,ak7,← ar6];congr 1;unfold dn.ask;by_cases ad:x.1.op=2
    · rw [f7 ad,g8 ad,f5]
      cases x.2 with
      | false=>simp
      | true=>simp [al7,ak6]
    · rw [d7 ad,i8 ad,f6,al9]
      repeat' split
      all_goals rfl
theorem P6:∀ (l:List cv) (k:dn),(l.foldl dn.ask k).whole=(k.whole||l.any fun x => !decide (x.1.op=2) && !x.2)
  | [],k=>by simp
  | x::r,k=>by
    rw [ah4,P6 r,ak7,← ar6];congr 1;unfold dn.ask;by_cases ad:x.1.op=2
    · rw [f7 ad,g8 ad]
      split<;>simp
    · rw [d7 ad,i8 ad]
      cases ab:x.2<;>by_cases aj:x.1.op=3<;>simp [aj]
theorem P7 {p q b:cv→Bool}:∀ (l:List cv),(∀ x∈l,b x=(p x||q x))→l.any b = !(l.all (fun x => !p x)&&l.all (fun x => !q x))
  | [],_=>rfl
  | x::r,h=>by
    rw [ak7,al8,al8,P7 r (fun y ax=>h y (i0 _ ax)),h x i6];cases p x<;>cases q x<;>simp
section
variable {w:bz} (hw:fw w) {arg:Int} {path:List Int} (aF:path.length≤2) {L:List cv} (bM:pG w L)
include aF bM
theorem EY:((ek L) (bu arg path)).core=(gf L arg path).foldl dn.ask iW:=PY aF L w3 bM
theorem vI (c:Nat):((ek L) (bu arg path)).fY.testBit c=(gf L arg path).any fun x=>decide (x.1.op=2)&&(!x.2&&decide (x.1.cls.toNat=c)):=by
 have h:((ek L) (bu arg path)).fY=((gf L arg path).foldl dn.ask iW).fY:=by rw [← EY aF bM];rfl
 rw [h,P4];simp [iW]
theorem EZ (c:Nat):((ek L) (bu arg path)).no.testBit c=(gf L arg path).any fun x=>decide (x.1.op=2)&&(x.2&&decide (x.1.cls.toNat=c)):=by
 have h:((ek L) (bu arg path)).no=((gf L arg path).foldl dn.ask iW).no:=by rw [← EY aF bM];rfl
 rw [h,P5];simp [iW]
theorem P8:((ek L) (bu arg path)).whole=(gf L arg path).any fun x => !decide (x.1.op=2) && !x.2:=by
 have h:((ek L) (bu arg path)).whole=((gf L arg path).foldl dn.ask iW).whole:=by rw [← EY aF bM];rfl
 rw [h,P6];simp [iW]
omit aF in
theorem s6 {x:cv} (ab:x∈gf L arg path) (ad:x.1.op=2):0≤x.1.cls∧x.1.cls<3+(w.ps.length:Int):=by
 unfold gf at ab;obtain ⟨aB,aC⟩:=bM x (ag3.1 ab).1;simp only [hM,aC,ag5,f7 ad,f4,g6] at aB;have:=aB.2.2.2.2.2.2.2;omega
theorem P9 {c:Nat} (h:((ek L) (bu arg path)).fY.testBit c=true):c<3+w.ps.length:=by
 rw [vI aF bM] at h;obtain ⟨x,ab,h⟩:=af4.1 h;simp only [f4,g6] at h;have:=s6 bM ab h.1;omega
include hw
theorem P' {c:Nat} (aD:c<3):vj (ek L) arg path c=((gf L arg path).all (fun x => !(decide (x.1.op=2)&&(!x.2 && !(decide (x.1.cls=0)||decide (x.1.cls=c)))))&&((gf L arg path).all (fun x => !(decide (x.1.op=2)&&(x.2&&(decide (x.1.cls=0)||decide (x.1.cls=c)))))&&vF w.owner.length L arg path)):=by
 have sE:=hw.ji;unfold vj;rw [abi aF bM];have an:∀ i,(1|||2^c:Nat).testBit i=(decide (i=0)||decide (i=c)):=fun i=>by
  rw [al7,BW,ak6];congr 1;rw [af0,g6,g6];omega
 congr 1
 ·rw [af0,g6,af5]
  constructor
  ·intro h x ab
   cases cN:(decide (x.1.op=2)&&(!x.2 && !(decide (x.1.cls=0)||decide (x.1.cls=c)))) with
   | false=>rfl
   | true=>
    exfalso;simp only [f4,g6,ai3,ak2,decide_eq_false_iff_not] at cN;have b9:=s6 bM ab cN.1;have hm:((ek L) (bu arg path)).fY.testBit x.1.cls.toNat=true:=by
     rw [vI aF bM,af4];exact ⟨x,ab,by simp [cN.1,cN.2.1]⟩
    have:=ae6 (fun n=>n.testBit x.1.cls.toNat) h;simp only [k6,am0,ar7,hm,an,ap7,f5] at this;rw [show (18446744073709551615:Nat)=2^64-1 by decide,ai1,g8 (by omega:x.1.cls.toNat<64),i8 ag,i8 ag] at this;cases this
  ·intro h
   apply an';intro i;rw [ap7];cases hm:((ek L) (bu arg path)).fY.testBit i with
   | false=>unfold k6;rw [am0,hm,f6]
   | true=>
    have aS:=P9 aF bM hm;rw [vI aF bM,af4] at hm;obtain ⟨x,ab,hm⟩:=hm;simp only [f4,g6,ai3] at hm;have:=h x ab;have b9:=s6 bM ab hm.1;simp only [hm.1,hm.2.1,decide_true,aj6,f5,ax5,ah5,g6] at this;unfold k6;rw [am0,ar7,an,show (18446744073709551615:Nat)=2^64-1 by decide,ai1,g8 (by omega:i<64)];rcases (by omega:i=0∨i=c) with rfl|rfl
    ·simp
    ·simp
 congr 1;rw [af0,g6,af5];constructor
 ·intro h x ab
  cases cN:(decide (x.1.op=2)&&(x.2&&(decide (x.1.cls=0)||decide (x.1.cls=c)))) with
  | false=>rfl
  | true=>
   exfalso;simp only [f4,g6,ah5] at cN;have b9:=s6 bM ab cN.1;have hm:((ek L) (bu arg path)).no.testBit x.1.cls.toNat=true:=by
    rw [EZ aF bM,af4];exact ⟨x,ab,by simp [cN.1,cN.2.1]⟩
   have:=ae6 (fun n=>n.testBit x.1.cls.toNat) h;simp only [am0,hm,an,ap7,f5,ak2,decide_eq_false_iff_not] at this;omega
 ·intro h
  apply an';intro i;rw [ap7,am0,an];cases hm:((ek L) (bu arg path)).no.testBit i with
  | false=>rfl
  | true=>
   rw [EZ aF bM,af4] at hm;obtain ⟨x,ab,hm⟩:=hm;simp only [f4,g6] at hm;have:=h x ab;have b9:=s6 bM ab hm.1;simp only [hm.1,hm.2.1,decide_true,f5,ai3,ak2,decide_eq_false_iff_not] at this;simp only [f5,ak2,decide_eq_false_iff_not];omega
theorem abj:xO w.owner.length L arg path=xk (ek L) arg path:=by
 have aS:=P2 (gf L arg path) iW;have aD:=EY (arg:=arg) aF bM;have aa:((ek L) (bu arg path)).low=((gf L arg path).foldl dn.ask iW).low:=by rw [← aD];rfl
 have ad:((ek L) (bu arg path)).high=((gf L arg path).foldl dn.ask iW).high:=by rw [← aD];rfl
 have aj:((ek L) (bu arg path)).e3=((gf L arg path).foldl dn.ask iW).e3:=by rw [← aD];rfl
 unfold xO xk xj;rw [P' hw aF bM ag,aa,ad,aj];rw [show ((-1000000000:Int),(1000000000:Int),([]:List Int))=(iW.low,iW.high,iW.e3) from rfl,aS];have an:(gf L arg path).any vH = !((gf L arg path).all (fun x => !(decide (x.1.op=2)&&(!x.2 && !(decide (x.1.cls=0)||decide (x.1.cls=(1:Nat))))))&&(gf L arg path).all (fun x => !(decide (x.1.op=2)&&(x.2&&(decide (x.1.cls=0)||decide (x.1.cls=(1:Nat))))))):=by
  have e:∀ x∈gf L arg path,vH x=(decide (x.1.op=2)&&(!x.2 && !(decide (x.1.cls=0)||decide (x.1.cls=(1:Nat))))||decide (x.1.op=2)&&(x.2&&(decide (x.1.cls=0)||decide (x.1.cls=(1:Nat))))):=by
   intro x ab;unfold vH;by_cases ad:x.1.op=2
   ·have:=s6 bM ab ad
    rw [g8 ad];have b6:decide (x.1.cls>1) = !(decide (x.1.cls=0)||decide (x.1.cls=(1:Nat))):=by
     rw [af0];simp;omega
    rw [b6];cases x.2<;>simp
   ·rw [i8 ad];rfl
  exact P7 _ e
 rw [an];cases (gf L arg path).all (fun x => !(decide (x.1.op=2)&&(!x.2 && !(decide (x.1.cls=0)||decide (x.1.cls=(1:Nat)))))) with
 | false=>simp
 | true=>
  cases (gf L arg path).all (fun x => !(decide (x.1.op=2)&&(x.2&&(decide (x.1.cls=0)||decide (x.1.cls=(1:Nat)))))) with
  | false=>simp
  | true=>simp only [Bool.and_self,aj',af7,ah9,f5,P3]
theorem abk:B2 w.owner.length L arg path=xi (ek L) arg path:=by
 unfold B2 xi;rw [P' hw aF bM ag,P8 aF bM,← aC0,← aC0];congr 1;rw [af0];simp only [f4,af5,ai3,ak8];have e:∀ x∈gf L arg path,(ED x=false↔(¬(decide (x.1.op=2)=false∧x.2=false)∧(decide (x.1.op=2)&&(!x.2 && !(decide (x.1.cls=0)||decide (x.1.cls=(2:Nat)))))=false)∧(decide (x.1.op=2)&&(x.2&&(decide (x.1.cls=0)||decide (x.1.cls=(2:Nat)))))=false):=by
  intro x ab;unfold ED;by_cases ad:x.1.op=2<;>cases x.2<;>simp [ad]<;>omega
 constructor
 ·intro h
  exact ⟨⟨fun x ab=>((e x ab).1 (h x ab)).1.1,fun x ab=>((e x ab).1 (h x ab)).1.2⟩,fun x ab=>((e x ab).1 (h x ab)).2⟩
 ·rintro ⟨⟨aa,ad⟩,aj⟩ x ab
  exact (e x ab).2 ⟨⟨aa x ab,ad x ab⟩,aj x ab⟩
end
theorem Ju {l lA:List Int} {f g:Int→Bool} (h:∀ s,s∈l↔s∈lA) (aX:∀ s∈l,f s=g s):l.any f=lA.any g:=by
 rw [af0,af4,af4];constructor
 ·rintro ⟨s,au,e⟩;exact ⟨s,(h s).1 au,by rw [← aX s au];exact e⟩
 ·rintro ⟨s,au,e⟩;exact ⟨s,(h s).2 au,by rw [aX s ((h s).2 au)];exact e⟩
def n9 (x:cv):Bool := !decide (x.1.op=2)||(decide (x.1.cls=1)||decide (x.1.cls=2))
theorem Jv (a:Nat→Bool) (c k:Nat) (b:Bool):((if k=c then true else a k)||b)=(a k||(decide (c=k)||b)):=by
 by_cases h:k=c
 ·rw [f7 h,g8 h.symm];simp
 ·rw [d7 h,i8 (Ne.symm h)];simp
theorem E0:∀ (l:List cv) (a:(Nat→Bool)×(Nat→Bool)),uh l a=if l.any (fun x=>n9 x && !x.2) then none else
    some (fun k=>a.1 k||l.any (fun x => !n9 x&&(!x.2&&decide (x.1.cls.toNat=k))),fun k=>a.2 k||l.any (fun x => !n9 x&&(x.2&&decide (x.1.cls.toNat=k))))
  | [],a=>by rw [uh];simp
  | x::r,a=>by
    rw [uh,ak7];simp only [ak7];by_cases h:x.1.op≠2∨x.1.cls=1∨x.1.cls=2
    · have e:n9 x=true:=by unfold n9;simpa [or_assoc] using h
      rw [f7 h,e];cases x.2 with
      | true=>rw [f7 C,E0 r a];simp only [aj',ak5,ah2,f6]
      | false=>simp
    · have e:n9 x=false:=by
        rw [af3];intro e;apply h;unfold n9 at e;simpa [or_assoc] using e
      rw [d7 h,e];cases x.2 with
      | true=>
        rw [f7 C,E0 r _];simp only [Jv,aj',aj6,ak5,ah2,f6,f5]
      | false=>
        rw [d7 bc,E0 r _];simp only [Jv,aj',aj6,ak5,ah2,f6,f5]
theorem Qa (w:bz) (L:List cv) (cn:List Int→Bool) (arg:Int) (path:List Int):∀ (l:List Int) (a:(Nat→Bool)×(Nat→Bool)),xP w L cn arg path l a=if l.any (fun s => !mj L arg (path++[s]) && !cn (path++[s])) then none else
    some (fun k=>a.1 k||l.any (fun s => !mj L arg (path++[s])&&decide (jP w s=k)),fun k=>a.2 k||l.any (fun s => !cn (path++[s])&&decide (jP w s=k)))
  | [],a=>by rw [xP];simp
  | s::r,a=>by
    rw [xP,ak7];simp only [ak7];cases aD:(!mj L arg (path++[s]) && !cn (path++[s])) with
    | true=>simp
    | false=>
      rw [d7 bc,ah2,Qa w L cn arg path r _];cases mj L arg (path++[s])<;>cases cn (path++[s])<;>simp only [Jv,jP,aj',aj6,ak5,ah2,f6,f5,ag5,ah9,af7]<;>rfl
theorem Jw {w:bz} {σ:dP} {cn:List Int→Bool} {arg:Int} {path:List Int}:∀ {l:List Int} {m n:Nat},l.any (fun s=>(σ (bu arg (path++[s]))).gz && !cn (path++[s]))=true→py w σ cn arg path l m n=none
  | s::r,m,n,h=>by
    rw [py];rw [ak7] at h;cases aD:((σ (bu arg (path++[s]))).gz && !cn (path++[s])) with
    | true=>rfl
    | false=>
      rw [aD,ah2] at h;rw [d7 bc];split
      · exact Jw h
      · split<;>exact Jw h
theorem E1 {w:bz} {σ:dP} {cn:List Int→Bool} {arg:Int} {path:List Int}:∀ {l:List Int} {m n:Nat},l.any (fun s=>(σ (bu arg (path++[s]))).gz && !cn (path++[s]))=false →
    ∃ iP n',py w σ cn arg path l m n=some (iP,n')∧(∀ k,iP.testBit k=(m.testBit k||l.any fun s=>(σ (bu arg (path++[s]))).gz&&decide (jP w s=k)))∧∀ k,n'.testBit k=(n.testBit k||l.any fun s => !cn (path++[s])&&decide (jP w s=k))
  | [],m,n,_=>⟨m,n,rfl,fun k=>by simp,fun k=>by simp⟩
  | s::r,m,n,h=>by
    rw [ak7,ak2] at h;obtain ⟨aa,ad⟩:=h;rw [py,d7 (by rw [aa];simp)];simp only [ak7];by_cases aB:(σ (bu arg (path++[s]))).gz=true
    · rw [aB,f5,aw3] at aa
      obtain ⟨iP,n',e,hm,gL⟩:=E1 (w:=w) (σ:=σ) (cn:=cn) (arg:=arg) (path:=path) (l:=r) (m:=m|||2^jP w s) (n:=n) ad;refine ⟨iP,n',by rw [f7 aB];exact e,fun k=>?_,fun k=>?_⟩
      · rw [hm,aB,al7,ak6,f5,ar6]
      · rw [gL,aa];simp
    · rw [d7 aB]
      have aB:(σ (bu arg (path++[s]))).gz=false:=by simpa using aB
      by_cases aD:cn (path++[s])=true
      · obtain ⟨iP,n',e,hm,gL⟩:=E1 (w:=w) (σ:=σ) (cn:=cn) (arg:=arg) (path:=path) (l:=r) (m:=m) (n:=n) ad
        refine ⟨iP,n',by rw [f7 aD];exact e,fun k=>?_,fun k=>?_⟩
        · rw [hm,aB];simp
        · rw [gL,aD];simp
      · obtain ⟨iP,n',e,hm,gL⟩:=E1 (w:=w) (σ:=σ) (cn:=cn) (arg:=arg) (path:=path) (l:=r) (m:=m) (n:=n|||2^jP w s) ad
        have nj:cn (path++[s])=false:=by simpa using aD
        refine ⟨iP,n',by rw [d7 aD];exact e,fun k=>?_,fun k=>?_⟩
        · rw [hm,aB];simp
        · rw [gL,nj,al7,ak6,aj6,f5,ar6]
theorem Qb {w:bz} (hw:fw w) (m:Nat) (k:Nat):∀ i,i≤w.ps.length→(((ah8 i).foldl (tU w) m).testBit k=true↔m.testBit k=true∨∃ j,j<i∧m.testBit (3+j)=true∧((dM w.ps).getD (3+j) 0).testBit k=true)
  | 0,_=>by simp
  | i+1,aS=>by
    have aW:=fun k=>Qb hw m k i ag
    rw [at2,List.foldl_append,ah4,av8];have an:((ah8 i).foldl (tU w) m).testBit (3+i)=m.testBit (3+i):=by
      rw [af0,aW (3+i)];constructor
      · rintro (h|⟨j,aI,-,h⟩)
        · exact h
        · have:=xJ hw (3+j+1) (3+j) (3+i) ag ag h;omega
      · exact .inl
    have e:∀ M,tU w M i=if M.testBit (3+i) then M|||(dM w.ps).getD (3+i) 0 else M:=fun M=>rfl
    rw [e,an];by_cases aj:m.testBit (3+i)=true
    · rw [f7 aj,al7,ah5,aW]
      constructor
      · rintro ((h|⟨j,aI,h,eY⟩)|h)
        · exact .inl h
        · exact .inr ⟨j,by omega,h,eY⟩
        · exact .inr ⟨i,by omega,aj,h⟩
      · rintro (h|⟨j,aI,h,eY⟩)
        · exact .inl (.inl h)
        · rcases ah7.1 aI with aI|rfl
          · exact .inl (.inr ⟨j,aI,h,eY⟩)
          · exact .inr eY
    · rw [d7 aj,aW]
      constructor
      · rintro (h|⟨j,aI,h,eY⟩)
        · exact .inl h
        · exact .inr ⟨j,by omega,h,eY⟩
      · rintro (h|⟨j,aI,h,eY⟩)
        · exact .inl h
        · rcases ah7.1 aI with aI|rfl
          · exact .inr ⟨j,aI,h,eY⟩
          · exact absurd h aj
theorem abl {w:bz} (hw:fw w) {f a2:Nat→Bool} {m n:Nat} (aX:∀ k,1≤k→f k=m.testBit k) (abm:f 0=false) (xX:m.testBit 1=false∧m.testBit 2=false) (hm:∀ k,m.testBit k=true→k<3+w.ps.length) (aO:∀ k,3≤k→a2 k=n.testBit k) :
  ((ah8 (3+w.ps.length)).all fun k => !(hX w.ps w.ps.length f k&&a2 k))=decide (k6 (rr w m) 1 &&& n=0):=by
 have sE:=hw.ji;have sF:∀ k,((rr w m).testBit k=true↔m.testBit k=true∨∃ j,j<w.ps.length∧m.testBit (3+j)=true∧((dM w.ps).getD (3+j) 0).testBit k=true):=fun k=>Qb hw m k w.ps.length (g7 _)
 have b9:∀ k,3≤k→hX w.ps w.ps.length f k=(rr w m).testBit k:=fun k aA=>by
  rw [af0,Ey hw _ _ _ aA (g7 _),sF,aX k ag];constructor <;>
  ·rintro (h|⟨j,aI,h,eY⟩)
   ·exact .inl h
   ·exact .inr ⟨j,aI,by first|rw [← aX _ ag];exact h|rw [aX _ ag];exact h,eY⟩
 have abn:∀ k,1≤k→k<3→(rr w m).testBit k=false:=fun k aa aj=>by
  rw [af3];intro h;rcases (sF k).1 h with h|⟨j,aI,-,h⟩
  ·rcases (by omega:k=1∨k=2) with rfl|rfl
   ·rw [xX.1] at h;cases h
   ·rw [xX.2] at h;cases h
  ·have:=xJ hw (3+j+1) (3+j) k ag ag h
   omega
 rw [af0,af5,g6];constructor
 ·intro h
  apply an';intro i;unfold k6;rw [ap7,am0,am0,ar7,BW];by_cases bo:i=0
  ·subst bo
   rw [show (18446744073709551615:Nat).testBit 0=true from rfl];simp
  by_cases aj:i<3
  ·rw [abn i ag aj];rfl
  ·cases hu:(rr w m).testBit i with
   | false=>rfl
   | true=>
    have aS:i<3+w.ps.length:=by
     rcases (sF i).1 hu with h|⟨j,aI,-,h⟩
     ·exact hm i h
     ·have:=xJ hw (3+j+1) (3+j) i ag ag h
      omega
    have:=h i (aj2.2 aS);rw [b9 i ag,hu,f5,aO i ag,ai3] at this;rw [this,ak5]
 ·intro h k aA
  have aA:=aj2.1 aA;by_cases aj:k<3
  ·rw [Ex hw _ _ _ aj (g7 _)]
   rcases (by omega:k=0∨k=1∨k=2) with rfl|rfl|rfl
   ·rw [abm];rfl
   ·rw [aX 1 ag,xX.1];rfl
   ·rw [aX 2 ag,xX.2];rfl
  ·rw [b9 k ag,aO k ag]
   have:=ae6 (fun n=>n.testBit k) h;unfold k6 at this;simp only [ap7,am0,ar7,BW] at this;rw [show (18446744073709551615:Nat)=2^64-1 by decide,ai1,g8 (by omega:k<64),i8 (by omega:¬ k=0)] at this;cases hu:(rr w m).testBit k with
   | false=>rfl
   | true=>rw [hu] at this;simpa using this
section
variable {w:bz} (hw:fw w) {arg:Int} {path:List Int} (aF:path.length≤2) {L:List cv} (bM:pG w L)
include aF bM hw
omit aF in
theorem Jx {s:Int} (h:rR L arg path s=true):3≤jP w s∧jP w s<3+w.ps.length:=by
 have aa:=Cj bM h;have az:s.toNat<w.owner.length:=by omega
 have:=hw.own _ (aj4 az);unfold jP;rw [d5,d8 az,ae4];omega
theorem abo {dJ zx:List Int→Bool} (aD:∀ s,rR L arg path s=true→dJ (path++[s])=zx (path++[s])):B3 w L dJ arg path=(xl w (ek L) zx arg path).2:=by
 have fs:∀ s,s∈n8 w.owner.length L arg path↔s∈((ek L) (bu arg path)).bm:=fun s=>Jt aF bM
 have vJ:∀ s∈n8 w.owner.length L arg path,rR L arg path s=true:=fun s au=>(EX aF bM s).1 ((fs s).1 au)
 have ez:∀ s∈n8 w.owner.length L arg path,(!mj L arg (path++[s]))=((ek L) (bu arg (path++[s]))).gz:=fun s au=>(P1 (Cj bM (vJ s au)).2.2 bM).symm
 unfold B3 xl;rw [E0,P8 aF bM,vI aF bM,vI aF bM,EZ aF bM];by_cases an:(gf L arg path).any (fun x=>n9 x && !x.2)=true
 ·rw [f7 an,f7]
  obtain ⟨x,ab,h⟩:=af4.1 an;simp only [ah5,af4];unfold n9 at h;simp only [f4,ah5,ai3,g6,decide_eq_false_iff_not] at h;obtain ⟨aa,ad⟩:=h;rcases aa with aa|aa|aa
  ·exact .inl ⟨x,ab,by simp [aa,ad]⟩
  ·by_cases aj:x.1.op=2
   ·exact .inr (.inl ⟨x,ab,by simp [aa,ad,aj]⟩)
   ·exact .inl ⟨x,ab,by simp [aj,ad]⟩
  ·by_cases aj:x.1.op=2
   ·exact .inr (.inr (.inl ⟨x,ab,by simp [aa,ad,aj]⟩))
   ·exact .inl ⟨x,ab,by simp [aj,ad]⟩
 rw [d7 an];have dU:∀ x∈gf L arg path,x.2=false→x.1.op=2∧x.1.cls≠1∧x.1.cls≠2:=by
  intro x ab ad;have:=ak8.1 (af3.2 an) x ab;unfold n9 at this;rw [ad] at this;simpa using this
 have b6:(gf L arg path).any (fun x => !decide (x.1.op=2) && !x.2)=false:=by
  rw [ak8];intro x ab h;simp only [f4,ai3,decide_eq_false_iff_not] at h;exact h.1 (dU x ab h.2).1
 have bW:∀ c:Nat,c=1∨c=2→(gf L arg path).any (fun x=>decide (x.1.op=2)&&(!x.2&&decide (x.1.cls.toNat=c)))=false:=by
  intro c sR;rw [ak8];intro x ab h;simp only [f4,ai3,g6] at h;have:=dU x ab h.2.1;have:=s6 bM ab h.1;omega
 rw [b6,bW 1 (.inl C),bW 2 (.inr C),ah2,ah2,ah2];simp only;rw [Qa];have n6:(n8 w.owner.length L arg path).any (fun s => !mj L arg (path++[s]) && !dJ (path++[s]))=((ek L) (bu arg path)).bm.any (fun s=>((ek L) (bu arg (path++[s]))).gz && !zx (path++[s])):=
  Ju fs fun s au=>by rw [ez s au,aD s (vJ s au)]
 rw [n6];have abp:(gf L arg path).any (fun x => !n9 x&&(x.2&&decide (x.1.cls.toNat=0)))=(gf L arg path).any (fun x=>decide (x.1.op=2)&&(x.2&&decide (x.1.cls.toNat=0))):=by
  rw [af0,af4,af4];constructor <;>
  ·rintro ⟨x,ab,h⟩
   refine ⟨x,ab,?_⟩;unfold n9 at *;by_cases ad:x.1.op=2
   ·simp only [ad,decide_true,f5,f4,g6,aj',ah2,ai3,ak2,decide_eq_false_iff_not] at h ⊢
    have:=s6 bM ab ad
    first|exact h.2|(obtain ⟨a8,bB⟩:=h;exact ⟨⟨by omega,by omega⟩,a8,bB⟩)
   ·simp [ad] at h
 have abq:(n8 w.owner.length L arg path).any (fun s => !dJ (path++[s])&&decide (jP w s=0))=false:=by
  rw [ak8];intro s au h;have:=Jx hw bM (vJ s au);simp only [f4,g6] at h;omega
 by_cases aO:((ek L) (bu arg path)).bm.any (fun s=>((ek L) (bu arg (path++[s]))).gz && !zx (path++[s]))=true
 ·rw [f7 aO,Jw aO]
  have:∀ z:Bool,false=(if z=true then (0,false) else ((0,false):Nat×Bool)).2:=fun z=>by cases z<;>rfl
  exact this _
 rw [d7 aO];obtain ⟨iP,n',e,hm,aB⟩:=E1 (w:=w) (σ:=ek L) (cn:=zx) (arg:=arg) (path:=path) (l:=((ek L) (bu arg path)).bm) (m:=((ek L) (bu arg path)).fY) (n:=((ek L) (bu arg path)).no) (by simpa using aO);rw [e];simp only [ah2,abq,abp,al9];cases bG:(gf L arg path).any (fun x=>decide (x.1.op=2)&&(x.2&&decide (x.1.cls.toNat=0))) with
 | true=>simp
 | false=>
  simp only [aj6,f5,af7,ah9];have k4:∀ k,(n8 w.owner.length L arg path).any (fun s => !mj L arg (path++[s])&&decide (jP w s=k))=((ek L) (bu arg path)).bm.any (fun s=>((ek L) (bu arg (path++[s]))).gz&&decide (jP w s=k)):=fun k=>Ju fs fun s au=>by rw [ez s au]
  have kZ:∀ k,(n8 w.owner.length L arg path).any (fun s => !dJ (path++[s])&&decide (jP w s=k))=((ek L) (bu arg path)).bm.any (fun s => !zx (path++[s])&&decide (jP w s=k)):=fun k=>Ju fs fun s au=>by rw [aD s (vJ s au)]
  have Qc:∀ k,k<3→((ek L) (bu arg path)).bm.any (fun s=>((ek L) (bu arg (path++[s]))).gz&&decide (jP w s=k))=false:=fun k aA=>by
   rw [ak8];intro s au h;have:=Jx hw bM (vJ s ((fs s).2 au));simp only [f4,g6] at h;omega
  have ab:∀ k,1≤k→¬ (k=1∨k=2)→∀ b:cv→Bool,(gf L arg path).any (fun x => !n9 x&&(b x&&decide (x.1.cls.toNat=k)))=(gf L arg path).any (fun x=>decide (x.1.op=2)&&(b x&&decide (x.1.cls.toNat=k))):=fun k aa ad b=>by
   rw [af0,af4,af4];constructor <;>
   ·rintro ⟨x,ab,h⟩
    refine ⟨x,ab,?_⟩;unfold n9 at *;by_cases aj:x.1.op=2
    ·simp only [aj,decide_true,f5,f4,g6,aj',ah2,ai3,ak2,decide_eq_false_iff_not] at h ⊢
     have:=s6 bM ab aj
     first|exact h.2|(obtain ⟨a8,bB⟩:=h;exact ⟨⟨by omega,by omega⟩,a8,bB⟩)
    ·simp [aj] at h
  refine abl hw ?_ (f7 C) ⟨?_,?_⟩ ?_ ?_
  ·intro k aA
   rw [d7 ag,hm,k4,vI aF bM];by_cases xX:k=1∨k=2
   ·rw [bW k xX]
    congr 1;rw [ak8];intro x ab h;unfold n9 at h;simp only [f4,ai3,ak2,decide_eq_false_iff_not,g6,aw3] at h;have:=s6 bM ab h.1.1;omega
   ·rw [ab k aA xX (fun x => !x.2)]
  ·rw [hm,vI aF bM,bW 1 (.inl C),Qc 1 ag];rfl
  ·rw [hm,vI aF bM,bW 2 (.inr C),Qc 2 ag];rfl
  ·intro k aA
   rw [hm,ah5] at aA;rcases aA with aA|aA
   ·exact P9 aF bM aA
   ·obtain ⟨s,au,aA⟩:=af4.1 aA
    have:=Jx hw bM (vJ s ((fs s).2 au));simp only [f4,g6] at aA;omega
  ·intro k aA
   rw [aB,kZ,EZ aF bM,ab k ag ag (fun x=>x.2)]
omit aF in
theorem Qd:∀ (k:Nat) (path:List Int),path.length≤2→qs w L arg k path=sH w (ek L) arg k path
  | 0,_,_=>rfl
  | k+1,path,aF=>by
    rw [qs,sH,abj hw aF bM,abk hw aF bM,abo hw aF bM (fun s au=>Qd k _ (Cj bM au).2.2)]
omit aF in
theorem abr:EE w L=oJ w (ek L):=by
 unfold EE oJ;congr 1;funext a;exact Qd hw bM 3 [] bc
end
theorem Qe:∀ (l:List av) (i v j:Nat) (x:av),l[j]? = some x→(sI i l v)[j]? = some (x,!v.testBit (i+j))
  | y::r,i,v,0,x,h=>by
    rw [sI];have:y=x:=by simpa using h
    rw [this];rfl
  | y::r,i,v,j+1,x,h=>by
    rw [sI,List.getElem?_cons_succ,Qe r (i+1) v j x hx];rw [show i+1+j=i+(j+1) by omega]
theorem Qf:∀ (l:List av) (i v:Nat),(sI i l v).length=l.length
 | [],_,_=>rfl
 | y::r,i,v=>by rw [sI,i5,Qf r,i5]
theorem Qg {l:List av} {v j:Nat} {x:av} (h:l[j]? = some x):(yX l v)[j]? = some (x,!v.testBit j):=by
 have:=Qe l 0 v j x h;rwa [af6] at this
theorem Jy (l:List av) (v:Nat):(yX l v).length=l.length:=Qf l 0 v
theorem abt {w:bz} {l:List av} (aC:kr w l) (ia:l.length≤7) (v:Nat):zu w (yX l v):=by
 refine ⟨by rw [Jy];omega,fun x ab=>?_⟩;obtain ⟨j,aI⟩:=af' ab;have o6:=se aI;rw [Jy] at o6;have h:=Qg (v:=v) (d8 o6);rw [aI] at h;simp only [Option.some.injEq] at h;subst h;have:=aC _ (aj4 o6);rw [oC,f4] at this;exact ⟨this.1.1,this.2⟩
theorem abu (p:bN) (n:Int):aV d0 97 [cD p,.int .i64 n] (.bool (lf p n)):=by
 have an:=bE;refine aV.bl al Tryz.func97 C C fun s I=>?_
 unfold cD cI bj lf
 repeat' (first|(with_reducible first|apply af.seq|apply b0|apply af.ret)|refine cY C ?_|refine af.cH ?_|refine ae.nil ?_|refine cF C ?_|refine ae.skip C C C ?_|(fail_if_success refine ae.same true C ?_);(fail_if_success refine ae.same false C ?_);refine ae.gY C C (fun h=>?_) (fun h=>?_))
 all_goals exact Fin.cE I C (aZ.of_eq rh)
theorem abv (v:Int×Int) (n:Int):aV d0 142 [eK v,.int .i64 n] (.bool (ff n v)):=by
 have an:=bE;refine aV.bl al Tryz.func142 C C fun s I=>?_
 unfold eK
 repeat' (first|(with_reducible first|apply af.seq|apply b0|apply fU|apply fp|apply gZ|apply af.ret|apply af.skip|apply af.block)|refine cY C ?_|refine af.cH ?_|refine ae.nil ?_|refine cF C ?_|refine ae.skip C C C ?_|(fail_if_success refine ae.same true C ?_);(fail_if_success refine ae.same false C ?_);refine ae.gY C C (fun h=>?_) (fun h=>?_)|refine af.cond C (fun h=>?_) (fun h=>?_))
 all_goals (refine Fin.cE I C (aZ.of_eq (ae6 ah.bool ?_));clear I;unfold ff j3;grind)
theorem Qh (l:List (Int×Int)) (n:Int) (aC:l.length<bx):aV d0 98 [.aG 2 (l.map eK) .bd,.int .i64 n] (.bool (l.all (ff n))):=by
 have an:=bE;refine aV.bl al Tryz.func98 C C fun s I=>?_
 have aa:=fun v=>abv v n
 refine hp ?_;refine af.ck [1,7,8] C I (σ:=Nat) (fun j=>[(9,.int .i64 (j:Int))]) (fun _=>[]) (fun j=>j≤l.length∧l.all (ff n)=(l.drop j).all (ff n)) (fun j=>l.length-j) 0 ⟨g9 _,rfl⟩ (cK C) ba ?_;rintro j ⟨aI,aw⟩ I
 try simp only at aI aw I ⊢
 refine cf ?_;refine af.cond C (fun az=>?_) (fun a7=>?_);rotate_left
 ·have a7:j=l.length:=by simp at a7;omega
  rw [eE ag,ap2] at aw;rw [aw];refine ew ?_;exact br I
 have az:j<l.length:=by simpa using az
 obtain ⟨v,ar,kY⟩:=b7 (f:=eK) az;rw [drop_cons ar,al8] at aw;have aa:=aa v;unfold eK at kY aa;cases aD:ff n v with
 | false=>
  rw [aD] at aa aw;rw [aw];refine ft ?_;exact br I
 | true=>
  rw [aD] at aa aw;refine ft ?_;exact bD.mk (j+1) I ⟨az,aw⟩ cA ba rn
theorem abw (w:bz) (hw:fw w) (aP:List c3) (aC:aP.length<bx) (ai:∀ o∈aP,o.bm.length<bx):aV d0 96 [eI w,fM aP] (.bool (tQ w aP)):=by
 have an:=bE;refine aV.bl al Tryz.func96 C C fun s I=>?_
 have sE:=hw.ji;have di:tQ w aP=(decide (aP.length≤40)&&aP.all (tP w aP.length)):=rfl;have aa:=fun c=>Zk w c sE
 have ad:=fun c aD=>OS w hw c aD
 have aj:=fun l n h=>Qh l n h
 have da:((aP.map hs).length:Int)=aP.length:=by rw [f8]
 unfold eI eX dd bj at *;refine cf ?_;refine af.cond C (fun h=>?_) (fun h=>?_)
 ·rw [show decide (aP.length≤40)=false by simp at h ⊢;omega,f6] at di
  rw [di];refine gE ?_;exact br I
 rw [show decide (aP.length≤40)=true by simp at h ⊢;omega,f5] at di;rw [di];clear di;refine jL ?_;refine af.ck [1,2,10,11] C I (σ:=Nat) (fun j=>[(12,.int .i64 (j:Int))]) (fun _=>[]) (fun j=>j≤aP.length∧aP.all (tP w aP.length)=(aP.drop j).all (tP w aP.length)) (fun j=>aP.length-j) 0 ⟨g9 _,rfl⟩ (cK C) ba ?_;rintro j ⟨aI,aw⟩ I
 try simp only at aI aw I ⊢
 refine cf ?_;refine af.cond C (fun az=>?_) (fun a7=>?_);rotate_left
 ·have a7:j=aP.length:=by simp at a7;omega
  rw [eE ag,ap2] at aw;rw [aw];refine ew ?_;exact br I
 have az:j<aP.length:=by simpa using az
 obtain ⟨o,ar,kY⟩:=b7 (f:=hs) az;have tY:=ai o (d6 ar);rw [drop_cons ar,al8] at aw;obtain ⟨c,bt⟩:=o;have vJ:tP w aP.length ⟨c,bt⟩=(sn w c&&(decide (bt.length=(kI w ((dM w.ps).getD c.toNat 0)).length)&&bt.all (ff aP.length))):=rfl;simp only at tY;rw [vJ] at aw;have aa:=aa c;rw [show (decide (c≥3)&&decide (c<3+(w.ps.length:Int)))=sn w c from rfl] at aa;unfold hs at kY;simp only at kY;cases g1:sn w c with
 | false=>
  rw [g1] at aa aw;rw [aw];refine ft ?_;exact br I
 | true=>
 rw [g1] at aa aw;unfold sn at g1;simp only [f4,g6] at g1;obtain ⟨cn,rfl⟩:∃ q:Nat,c=q:=⟨c.toNat,by omega⟩;rw [i9] at aw;have ad:=ad cn ag;generalize kI w ((dM w.ps).getD cn 0)=zy at ad aw;have aj:=aj bt aP.length tY;refine ft ?_;by_cases g2:bt.length=zy.length;rotate_left
 ·rw [i8 g2] at aw
  rw [aw];refine aL.split 32 C (fun _=>?_) (fun h=>absurd h cL);refine hD ?_;exact br I
 rw [g8 g2] at aw;refine aL.split 32 C (fun h=>absurd h cL) (fun _=>?_);rw [← da] at aj;cases g3:bt.all (ff aP.length) with
 | false=>
  rw [g3] at aw;rw [da,g3,← da] at aj;rw [aw];refine cl ?_;exact br I
 | true=>
  rw [g3] at aw;rw [da,g3,← da] at aj;refine cl ?_;exact bD.mk (j+1) I ⟨az,aw⟩ cA ba (by show aP.length-(j+1)<aP.length-j;omega)
theorem abx (w:bz) (aP:List c3) (ai:n1 w aP) (v:Int×Int) (ar:ff aP.length v=true):aV d0 145 [fM aP,eK v] (.int .i64 (if v.1=3 then (aP.getD v.2.toNat default).cls else v.1)):=by
 have an:=bE;refine aV.bl al Tryz.func145 C C fun s I=>?_
 obtain ⟨hz,hZ⟩:=v;unfold eK;simp only;rcases DK ar with h|h|h
 ·simp only at h;subst h
  refine bK ?_;exact br I
 ·simp only at h;subst h
  refine bK ?_;exact br I
 ·simp only at h;subst h
  obtain ⟨cu,c2⟩:=yL ar rfl;simp only at cu c2;obtain ⟨q,rfl⟩:∃ q:Nat,hZ=q:=⟨hZ.toNat,by omega⟩;obtain ⟨o,bn,qz⟩:=b7 (f:=hs) (l:=aP) (j:=q) ag;rw [f7 C,i9,show aP.getD q default=o by rw [d5,bn];rfl];unfold hs at qz;refine bK ?_;exact br I
theorem aby (w:bz) (hw:fw w) (aP:List c3) (ai:n1 w aP) (v:Int×Int) (ar:ff aP.length v=true) (path:List Int) (aF:∀ s∈path,0≤s∧s<(w.owner.length:Int)) (gX:path.length<bx) :
  aV d0 143 [eI w,fM aP,eK v,bj path] (atR (ht w aP v path)):=by
 have an:=bE;have pt:=hw.ji;refine aV.bl al Tryz.func143 C C fun s I=>?_
 have db:=fun c aD=>OS w hw c aD
 have lI:=fun c bt o aD h=>IU w hw c bt o aD h
 unfold eK;unfold eI eX dd bj at *
 repeat (first|(refine Ao ?_)|refine ae.jJ I C C C C C C (fun b I=>?_)|refine ae.dZ al I C C C C C C C (fun cB I=>?_)|(refine Ap ?_))
 refine af.mE I 4 _ C (.there (.there .here)) (fun I=>?_);refine af.ck [1,4,8,15,16] C I (σ:=Nat×(Int×Int)) (fun j=>[(17,.int .i64 (j.1:Int)),(6,.ptr b 0)]) (fun j=>[(.own b,.box 122 [.int .i64 j.2.1,.int .i64 j.2.2]),(.own cB,.box 122 [.int .i64 0,.int .i64 0])]) (fun j=>j.1≤path.length∧ht w aP v path=ht w aP j.2 (path.drop j.1)∧ff aP.length j.2=true) (fun j=>path.length-j.1) (0,v) ⟨g9 _,rfl,ar⟩ (cK C) ba ?_;rintro ⟨j,u⟩ ⟨aI,aw,hu⟩ I;simp only at aI aw hu I ⊢;refine cf ?_;refine af.cond C (fun az=>?_) (fun a7=>?_);rotate_left
 ·have a7:path.length≤j:=by simpa using a7
  rw [eE a7,ht] at aw;rw [aw];refine ct I ?_;intro I;exact Fin.cE I (uY C C (bp.get a' I) C C) aT
 have az:j<path.length:=by simpa using az
 obtain ⟨x,ax,dc⟩:=b7 (f:=bg) az;obtain ⟨g1,g2⟩:=aF x (d6 ax);obtain ⟨bt,rfl⟩:∃ bt:Nat,x=bt:=⟨x.toNat,by omega⟩;rw [drop_cons ax,ht] at aw;unfold bg at dc;obtain ⟨hz,hZ⟩:=u
 try simp only at aw
 refine eh ?_;refine af.q8 I b .here al mixed C ?_;refine c5 ?_;by_cases aj:hz=3;rotate_left
 ·rw [f7 aj] at aw
  refine aL.split 24 C (fun _=>?_) (fun h=>absurd h (by simpa using aj));refine ct I ?_;intro I;rw [aw];exact Fin.cE I (uY C C (bp.get a' I) C C) aT
 obtain ⟨cu,c2⟩:=yL hu aj;subst aj;rw [d7 bc] at aw;simp only at cu c2;obtain ⟨q,rfl⟩:∃ q:Nat,hZ=q:=⟨hZ.toNat,by omega⟩;obtain ⟨o,bn,qz⟩:=b7 (f:=hs) (l:=aP) (j:=q) ag;have r2:aP.getD ((q:Int)).toNat default=o:=by rw [i9,d5,bn];rfl
 obtain ⟨⟨k9,gP⟩,ss,su⟩:=ai.each o (d6 bn);rw [r2] at aw;obtain ⟨cls,bm⟩:=o;simp only at k9 gP ss su aw;obtain ⟨c,rfl⟩:∃ c:Nat,cls=c:=⟨cls.toNat,by omega⟩;have nq:hc w (c:Int)=(dM w.ps).getD c 0:=by unfold hc;rw [i9]
 obtain ⟨nr,m'⟩:∃ nr,w.owner[bt]? = some nr:=⟨_,d8 ag⟩;obtain ⟨n2,bT⟩:=hw.own nr (d6 m');obtain ⟨o,rfl⟩:∃ o:Nat,nr=o:=⟨nr.toNat,by omega⟩;have aa:=lI c bt o ag m';have jX:(w.owner.getD ((bt:Int)).toNat 0).toNat=o:=by rw [i9,d5,m'];simp
 have Hj:(w.owner.getD bt 0).toNat=o:=by rw [d5,m'];simp
 rw [nq,jX] at aw;rw [nq] at ss;have ad:=db c ag;have xE:=Hi w ((dM w.ps).getD c 0) bt ag;rw [Hj] at xE;have hlen:(kI w ((dM w.ps).getD c 0)).length≤40:=by
  have bB:=hw.bm;unfold kI;rw [f8];exact Nat.le_trans (aj8 _ _) cL
 generalize kI w ((dM w.ps).getD c 0)=zy at *;unfold hs at qz;refine aL.split 24 C (fun h=>absurd h bc) (fun _=>?_);cases qb:((dM w.ps).getD c 0).testBit o with
 | false=>
  rw [qb,d7 bc] at aw;rw [qb] at aa;refine ct I ?_;intro I;rw [aw];exact Fin.cE I (uY C C (bp.get a' I) C C) aT
 | true=>
  rw [qb,f7 C] at aw;rw [qb] at aa;obtain ⟨k,ky,hQ⟩:=xE qb;obtain ⟨y,tg,Hk⟩:=b7 (f:=eK) (l:=bm) (j:=k) ag;have w6:bm.getD k (0,0)=y:=by rw [d5,tg];rfl
  rw [ky,ae4,w6] at aw;unfold eK at Hk;refine c5 ?_;refine af.q8 I b .here al mixed C ?_;refine cl ?_;rw [List.findIdx?_eq_some_iff_getElem] at ky;obtain ⟨f1,f2,f3⟩:=ky;refine af.ck [1,4,8,11,15,16,17,45,46] C I (σ:=Nat) (fun i=>[(47,.int .i64 (i:Int)),(6,.ptr b 0)]) (fun _=>[(.own b,.box 122 [.int .i64 3,.int .i64 (q:Int)]),(.own cB,.box 122 [.int .i64 0,.int .i64 0])]) (fun i=>i≤k) (fun i=>zy.length-i) 0 (g9 _) (cK C) (aJ.all _) ?_;rintro i aS I
  try simp only at aS I ⊢
  refine cf ?_;refine af.cond C (fun cT=>?_) (fun ef=>by simp at ef;omega);obtain ⟨z,bG,q9⟩:=b7 (f:=bg) (l:=zy) (j:=i) ag;unfold bg at q9;refine bK ?_;refine af.cond C (fun he=>?_) (fun aB=>?_)
  ·have he:z=(bt:Int):=by simpa using he
   have h1:i=k:=by
    rcases ap0 i k with h|h
    ·have:=f3 i h
     rw [(t7.1 bG).2,he] at this;simp at this
    ·omega
   subst h1;refine hq I ?_;intro I;exact bD.mk (j+1,y) I ⟨az,aw,su y (d6 tg)⟩ cA ba (by show path.length-(j+1)<path.length-j;omega)
  ·have aB:z≠(bt:Int):=by simpa using aB
   have h1:i<k:=by
    rcases ap0 i k with h|h
    ·exact h
    ·have h1:i=k:=by omega
     subst h1;rw [(t7.1 bG).2] at f2;exact absurd (by simpa using f2) aB
   refine fV ?_;exact bD.mk (i+1) I h1 cA (aJ.all _) (by show zy.length-(i+1)<zy.length-i;omega)
theorem abz (w:bz) (hw:fw w) (aP:List c3) (ai:n1 w aP) (args:List (Int×Int)) (aO:∀ v∈args,ff aP.length v=true) (jM:args.length≤3):∀ (n:Nat) (f:av),f.size≤n→n<bx→gy w f=true→iV f≤args.length →
    aV d0 99 [eI w,f.cj,fM aP,iX args] (.bool (mO w aP args f)):=by
  have an:=bE;intro n
  induction n with
  | zero=>intro x h;have:=x.size_eq;omega
  | succ n aW=>
    intro f aB jc aq gA;have pt:=hw.ji;have gd:=ai.ji;have iu:=f.size_eq;have lJ:=AV w aP args f;rw [yH] at gA;rw [oC,f4] at aq;obtain ⟨ns,kK⟩:=aq;refine aV.bl al Tryz.func99 C C fun s I=>?_
    rw [av.cG];rcases A3 ns with ⟨aa,ad⟩|⟨aC,ad,aa⟩|⟨aa,x,ad⟩|⟨aa,x,y,ad⟩
    · rw [lJ,aa]
      unfold av.cells;rw [aa];refine bK ?_;exact br I
    · have hJ:=w7.of ns aC
      have gX:=hJ.path;have cx:=fun v ar=>aby w hw aP ai v ar f.path hJ.bm ag
      rw [aC,ad] at gA;simp only [ag5,hb] at gA;obtain ⟨q,bn⟩:∃ q:Nat,f.arg=q:=⟨f.arg.toNat,by have:=hJ.arg;omega⟩;obtain ⟨v,ar,kY⟩:=b7 (f:=eK) (l:=args) (j:=q) ag;have w8:=aO v (d6 ar);have A4:args.getD f.arg.toNat (0,0)=v:=by rw [bn,i9,d5,ar];rfl
      have cx:=cx v w8;have A5:mO w aP args f=nV w aP args f:=by
        rw [lJ,d7 ag,d7 ag,d7 ag,d7 ag]
      rw [A5];clear A5 lJ aW;have b9:=hJ.cls;unfold av.cells;rw [bn];cases hu:ht w aP v f.path with
      | none=>
        have hle:nV w aP args f=false:=by unfold nV;rw [A4,hu]
        rw [hu] at cx;rw [hle];unfold eK at kY;unfold atR eK at cx;unfold eI eX dd bj at *;simp only [ae4,at6,au6,ap'] at cx;rcases aa with h|h|h
        all_goals
          rw [h]
          repeat (first|(refine T8 ?_)|refine aL.yB al I C C C C C C C C (fun cB I=>?_)|(refine Di I ?_;clear I;intro I))
          exact br I
      | some u=>
        have j0:=DL ai f.path v u hJ.bm w8 hu;obtain ⟨hz,hZ⟩:=u
        have hle:nV w aP args f=(if f.op=2 then (if hz=3 then (hc w (aP.getD hZ.toNat default).cls).testBit f.cls.toNat else (hc w hz).testBit f.cls.toNat)
    else decide (hz=1)&&((decide (hZ=f.n)==decide (f.op=4))&&decide (hZ≤f.n))):=by unfold nV;rw [A4,hu]
        have sU:=abx w aP ai (hz,hZ) j0;have lO:=fun a b aa ad=>OR w hw a b aa ad
        rw [hu] at cx;rw [hle];unfold eK at kY sU;unfold atR eK at cx;unfold eI eX dd bj at *;simp only [ae4,at6,au6,ap'] at cx sU;rcases aa with h|h|h
        · rw [h,f7 C]
          obtain ⟨cu,c2⟩:=b9 h;obtain ⟨dJ,b9⟩:∃ dJ:Nat,f.cls=dJ:=⟨f.cls.toNat,by omega⟩;rw [b9,i9];rw [b9] at c2;obtain ⟨c,aD,sR⟩:∃ c:Nat,(if hz=3 then (aP.getD hZ.toNat default).cls else hz)=c∧c<3+w.ps.length:=by
            by_cases aj:hz=3
            · obtain ⟨k9,gP⟩:=yL j0 aj
              simp only at k9 gP
              have:=ai.each (aP.getD hZ.toNat default) (by
                rw [d5,d8 (show hZ.toNat<aP.length by omega)]
                exact aj4 _)
              rw [f7 aj];exact ⟨(aP.getD hZ.toNat default).cls.toNat,by omega,by omega⟩
            · have:=DK j0
              simp only at this;rw [d7 aj];exact ⟨hz.toNat,by omega,by omega⟩
          have AH:(if hz=3 then (hc w (aP.getD hZ.toNat default).cls).testBit dJ else (hc w hz).testBit dJ)=((dM w.ps).getD c 0).testBit dJ:=by
            by_cases aj:hz=3
            · rw [f7 aj] at aD ⊢
              rw [aD];unfold hc;rw [i9]
            · rw [d7 aj] at aD ⊢
              rw [aD];unfold hc;rw [i9]
          rw [AH];have lO:=lO c dJ sR ag;rw [aD] at sU;refine bK ?_;refine af.nT al mixed C ?_
          repeat (first|(refine T9 ?_)|refine aL.yB al I C C C C C C C C (fun cB I=>?_)|(refine Di I ?_;clear I;intro I))
          refine af.q8 I cB .here al mixed C ?_;refine c5 ?_;exact br I
        · rw [h,d7 dV]
          refine bK ?_;refine af.nT al mixed C ?_
          repeat' (first|(with_reducible first|apply af.seq|apply b0|apply fU|apply gZ|apply af.ret|apply af.block)|refine cY C ?_|refine af.cH ?_|refine ae.nil ?_|refine af.fx C ?_|refine af.gI C ?_|refine cF C ?_|refine ae.skip C C C ?_|refine ae.eC al I C C C C C C Am b5 ?_|refine aL.nil ?_|refine aL.step C ?_|refine aL.idx _ C C C C C C C C C C C cp C ?_|refine aL.dL C C C C C cp ?_|refine aL.yB al I C C C C C C C C (fun cB I=>?_)|refine aL.storeT al I C C C C C C C C C C Am b5 (fun I=>?_)|(fail_if_success refine ae.same true C ?_);(fail_if_success refine ae.same false C ?_);refine ae.gY C C (fun h=>?_) (fun h=>?_))
          all_goals (refine Fin.cE I C (aZ.of_eq (ae6 ah.bool ?_));clear I cx sU lO hle hu j0;grind)
        · rw [h,d7 dV]
          refine bK ?_;refine af.nT al mixed C ?_
          repeat' (first|(with_reducible first|apply af.seq|apply b0|apply fp|apply af.ret|apply af.skip|apply af.block)|refine cY C ?_|refine af.cH ?_|refine ae.nil ?_|refine af.gI C ?_|refine cF C ?_|refine ae.skip C C C ?_|refine ae.eC al I C C C C C C Am b5 ?_|refine aL.nil ?_|refine aL.step C ?_|refine aL.idx _ C C C C C C C C C C C cp C ?_|refine aL.dL C C C C C cp ?_|refine aL.yB al I C C C C C C C C (fun cB I=>?_)|refine aL.storeT al I C C C C C C C C C C Am b5 (fun I=>?_)|(fail_if_success refine ae.same true C ?_);(fail_if_success refine ae.same false C ?_);refine ae.gY C C (fun h=>?_) (fun h=>?_))
          all_goals (refine Fin.cE I C (aZ.of_eq (ae6 ah.bool ?_));clear I cx sU lO hle hu j0;grind)
    · have ab:=av.h5 (l:=f.kids) (x:=x) km
      have hI:=(u6 f.kids (if f.cU then f.arg+1 else 0)).2 x km;have i1:=aW x ag ag (kl kK km) ag;have b6:([x].map av.cj)[0]? = some (.agg x.cells):=by rw [← av.cG];rfl
      rw [aa,d7 ag,f7 C,ad,u7 w aP args 0 [x] x C] at lJ;rw [lJ];rw [av.cG] at i1;unfold av.cells at b6 i1 ⊢;unfold eI eX dd bj at *;rw [aa,ad];refine cl ?_;exact br I
    · have ab:=av.h5 (l:=f.kids) (x:=x) km
      have ax:=av.h5 (l:=f.kids) (x:=y) ri;have hI:=(u6 f.kids (if f.cU then f.arg+1 else 0)).2 x km;have dg:=(u6 f.kids (if f.cU then f.arg+1 else 0)).2 y ri;have i1:=aW x ag ag (kl kK km) ag;have i2:=aW y ag ag (kl kK ri) ag;have b6:([x,y].map av.cj)[0]? = some (.agg x.cells):=by rw [← av.cG];rfl
      have bW:([x,y].map av.cj)[1]? = some (.agg y.cells):=by rw [← av.cG];rfl
      rw [ad,u7 w aP args 0 [x,y] x C,u7 w aP args 1 [x,y] y C] at lJ;rw [av.cG] at i1 i2;unfold av.cells at b6 bW i1 i2 ⊢;unfold eI eX dd bj at *;rw [ad];rcases aa with aa|aa
      all_goals
        rw [aa] at lJ ⊢;cases vb:mO w aP args x with
        | true=>
          rw [vb] at i1 lJ;simp at lJ;rw [lJ];refine cl ?_;exact br I
        | false=>
          rw [vb] at i1 lJ;simp at lJ;rw [lJ];refine cl ?_;exact br I
mutual
theorem Qi:∀ (g f:av),f∈kp g→iV f≤iV g
  | .mk o a p c n ks,f,h=>by
    rw [kp] at h;split at h
    · rw [t6] at h;subst h;exact al1 _
    · have:=Qj ks f (if (av.mk o a p c n ks).cU then a+1 else 0) h
      rw [iV];exact this
theorem Qj:∀ (l:List av) (f:av) (m:Int),f∈mU l→iV f≤hb m l
  | x::r,f,m,h=>by
    rw [mU] at h;rw [hb];rcases ae2.1 h with h|h
    · have aa:=Qi x f h
      have ad:=(u6 r (max m (iV x))).1;omega
    · exact Qj r f _ h
end
theorem Qk {f:av}:∀ (cZ l:List av),f∈cZ.foldl j8 l→f∈l∨f∈cZ
  | [],l,h => .inl h
  | x::r,l,h=>by
    rcases Qk r _ h with h|h
    · rcases N5 h with h|h
      · exact .inl h
      · subst h;exact .inr i6
    · exact .inr (i0 _ h)
theorem Ql {n:Int} {f:av}:∀ (ms:List gN) (l:List av),f∈ms.foldl (ld n) l→f∈l∨∃ m∈ms,m.gen=n∧f∈kp m.fact
  | [],l,h => .inl h
  | m::r,l,h=>by
    rcases Ql r _ h with h|⟨iP,aa,ad⟩
    · unfold ld at h
      split at h
      · rename_i aq
        rcases Qk _ _ h with h|h
        · exact .inl h
        · exact .inr ⟨m,i6,aq,h⟩
      · exact .inl h
    · exact .inr ⟨iP,i0 _ aa,ad⟩
theorem abA {w:bz} {f:av} (h:gy w f=true) (aA:f.kids=[]):ig w f=true:=by
 obtain ⟨o,a,p,c,n,ks⟩:=f;have aA:ks=[]:=aA;subst aA;rw [gy,f4] at h;unfold ig;rw [e2,d7 bc,f7 h.1,ha]
theorem abB {p:bN} (h:fX p=true):∀ n∈p.dt,1≤n∧n≤3:=fun n aB=>by
 obtain ⟨-,aC,-⟩:=Ec h;unfold p6 at aC;simp only [f4,g6,af5] at aC;have:=aC.2.2.2.2 n aB;omega
theorem Qm {p:bN} (h:fX p=true) {m:gN} (hm:m∈p.methods):iV m.fact≤p.dt.getD m.gen.toNat 0:=by
 obtain ⟨-,-,o,ai⟩:=Ec h;have:=H9 ai m hm;unfold sq at this;simp only [f4,g6] at this;exact this.2.2.2.2.2
theorem abC (p:bN) (aP:List c3) (n:Int) (args:List (Int×Int)):oU p aP n args=(fX p&&(tQ (bY p) aP&&(lf p n&&(decide ((args.length:Int)=p.dt.getD n.toNat 0)&&args.all (ff aP.length))))):=by
 unfold oU sN nU;cases aF:fX p with
 | false=>rfl
 | true=>
  rw [f5,f5,af0];simp only [f4,g6];constructor
  ·rintro ⟨aa,ad,aj,a8,bB,gp⟩
   exact ⟨aj,aa,ad,gp⟩
  ·rintro ⟨aj,aa,ad,gp⟩
   refine ⟨aa,ad,aj,?_,?_,gp⟩
   all_goals
    unfold lf at aa;simp only [f4,g6] at aa;have aC:n.toNat<p.dt.length:=by omega
    rw [d5,d8 aC,ae4] at ad;have:=abB aF _ (aj4 aC);omega
structure rW (p:bN) (aP:List c3) (n:Int) (args:List (Int×Int)):Prop where
 prog:fX p=true
 obj:n1 (bY p) aP
 ji:args.length≤3
 lX:∀ v∈args,ff aP.length v=true
 Qn:(args.length:Int)=p.dt.getD n.toNat 0
 hand:nU (bY p) aP args=true
theorem rW.of {p:bN} {aP:List c3} {n:Int} {args:List (Int×Int)} (h:oU p aP n args=true):rW p aP n args:=by
 unfold oU sN at h;simp only [f4,g6] at h;obtain ⟨aa,ad,aj,a8⟩:=h;have:=MA a8;exact ⟨aa,this.1,this.2.1,this.2.2,aj,a8⟩
theorem Qo {p:bN} {aP:List c3} {n:Int} {args:List (Int×Int)} (aD:rW p aP n args) {f:av} (aX:f∈cy p n):iV f≤args.length:=by
 rcases Ql _ _ aX with h|⟨m,hm,aq,vw⟩
 ·cases h
 ·have aa:=Qi _ _ vw
  have ad:=Qm aD.prog hm;rw [aq,← aD.Qn] at ad;omega
theorem Qp {p:bN} {aP:List c3} {n:Int} {args:List (Int×Int)} (aD:rW p aP n args) {f:av} (aX:f∈cy p n):pH (bY p) aP args f=mO (bY p) aP args f:=by
 have cx:=(N8 aD.prog n).1 f aX;have au:=Qo aD aX;unfold pH nt;rw [abA cx.1 (xS cx.1 cx.2),aD.hand,f7 (by simpa using au)];simp
theorem abD (p:bN) (aF:gx p) (n:Int) (aP:List c3) (args:List (Int×Int)) (aC:aP.length<bx) (ai:∀ o∈aP,o.bm.length<bx) (jM:args.length<bx):aV d0 54 [cD p,fM aP,.int .i64 n,iX args] (.bool (oU p aP n args)):=by
 have an:=bE;refine aV.bl al Tryz.func54 C C fun s I=>?_
 have aa:=O' p aF;have ad:=abu p n;have aj:=fun h=>EC p aF h
 have a8:=fun hw=>abw (bY p) hw aP aC ai
 have bB:=Qh args aP.length jM;have da:((aP.map hs).length:Int)=aP.length:=by rw [f8]
 rw [abC];cases ec:fX p with
 | false=>
  rw [ec] at aa;rw [f6];unfold cD cI at *;refine cl ?_;exact br I
 | true=>
 rw [ec] at aa;rw [f5];have lN:=vr ec;have aj:=aj O1;have a8:=a8 lN;unfold cD cI eI eX dd bj at *;cases g1:tQ (bY p) aP with
 | false=>
  rw [g1] at a8;rw [f6];refine cl ?_;exact br I
 | true=>
 rw [g1] at a8;rw [f5];cases g2:lf p n with
 | false=>
  rw [g2] at ad;rw [f6];refine cl ?_;exact br I
 | true=>
 rw [g2] at ad;rw [f5];unfold lf at g2;simp only [f4,g6] at g2;obtain ⟨c,rfl⟩:∃ c:Nat,n=c:=⟨n.toNat,by omega⟩;obtain ⟨a,rG,PG⟩:=b7 (f:=bg) (l:=p.dt) (show c<p.dt.length by omega);rw [i9,show p.dt.getD c 0=a by rw [d5,rG];rfl];unfold bg at PG;refine cl ?_;by_cases g3:(args.length:Int)=a;rotate_left
 ·rw [i8 g3,f6]
  refine ae.dh 32 C (by simpa using g3) ?_;refine et ?_;exact br I
 rw [g8 g3,f5];refine ae.dK 32 C (by simpa using g3) ?_;rw [← da] at bB ⊢;refine c5 ?_;exact br I
end Go.Proofs.YtnafpeohfbglmaaGreat
