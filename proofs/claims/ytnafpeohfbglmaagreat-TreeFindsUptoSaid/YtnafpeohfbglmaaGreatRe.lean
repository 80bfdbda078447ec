import Derived.Test.YtnafpeohfbglmaaGreatRd
set_option linter.unusedVariables false
set_option linter.unusedSimpArgs false
set_option maxRecDepth 100000
set_option maxHeartbeats 4000000
open Bool renaming and_eq_true→f7,and_false→ai2,and_true→ao8,eq_false_iff→ad0,eq_iff_iff→ad3,false_and→f5,or_eq_true→ag',or_false→ak4,true_and→f0,true_or→ai4
open Int renaming le_refl→ai0,sub_zero→aA4,toNat_natCast→ac0
open Go.IntKind renaming wrap→H1
open List renaming all_cons→ah1,all_eq_true→af3,all_nil→ak0,append_assoc→ae',append_nil→d7,cons_append→ab',contains_append→al0,contains_iff_mem→af7,drop_zero→aj',eq_nil_of_length_eq_zero→af5,find?_cons→au4,findIdx?_eq_some_iff_getElem→ae8,foldl_append→am6,getD_eq_getElem?_getD→d6,getElem?_append_left→ad6,getElem?_append_right→ad5,getElem?_eq_getElem→g6,getElem?_eq_none→aj9,getElem?_eq_some_iff→ac3,getElem?_map→ad2,getElem?_replicate→ar6,getElem_mem→aj6,isEmpty→an3,length_append→f8,length_cons→i8,length_drop→ag2,length_filter_le→ag6,length_map→f6,length_nil→ae0,length_replicate→ad9,length_singleton→ae6,length_take_le'→ai6,length_take→ac8,map_append→ac2,map_cons→ac4,map_nil→ae5,mem_append→ac9,mem_cons_of_mem→i5,mem_cons_self→i7,mem_cons→ad1,mem_map→ad7,mem_of_getElem?→d5,mem_of_mem_take→am1,mem_singleton→z2,nil_append→d8,range→ae7,replicate_succ'→am2,replicate_zero→as4,replicate→t7,set_append_right→aj1,take_length→ac6,take_of_length_le→af0,take_zero→aj2
open Nat renaming and_comm→aA0,le_refl→i0,le_trans→ai',lt_or_ge→am0,lt_succ_iff_lt_or_eq→af1,lt_succ_self→aj5,mul_one→ag7,or_lt_two_pow→ag9,pow_lt_pow_right→ag1,zero_add→ae4,zero_le→g7
open Option renaming getD_none→aq0,getD_some→ae1,isSome_none→an0,isSome_some→aq8,some→al8
open Go.Proofs.Tryz renaming prog→d0
theorem uP {p:Prop} (h:p:=by (first|rw [jv (by omega)]|(rw [iH aD,KE,ia,ia];congr 1;split<;>omega))):p:=h
theorem tw {p:Prop} (h:p:=by show aH _ [(_,.row _ _ (xs (j+1)).length)] _;rw [dd];exact aH.du _):p:=h
theorem yk {p:Prop} (h:p:=by show aH _ [(_,.row _ _ (xs (j+1)).length)] _;rw [au];exact aH.du _):p:=h
theorem uQ {p:Prop} (h:p:=by (first|rfl|(rw [aB];simp [ia,a8 aB])|(rw [aB];simp [ia]))):p:=h
theorem Gy {p:Prop} (h:p:=by simp only [List.length_nil,Nat.zero_add,List.length_map];omega):p:=h
theorem yl {p:Prop} (h:p:=by show p.cl.length-(j+1)<p.cl.length-j;omega):p:=h
theorem ym {p:Prop} (h:p:=by show w.owner.length-(j+1)<w.owner.length-j;omega):p:=h
theorem Df {p:Prop} (h:p:=by show c.bl.length-(k+1)<c.bl.length-k;omega):p:=h
theorem qS {p:Prop} (h:p:=by first|(simp_all [];done)|(simp_all []<;>omega)):p:=h
theorem yn {p:Prop} (h:p:=by (rw [eo (by omega) (by omega)])):p:=h
theorem l3 {p:Prop} (h:p:=by show l.length-(j+1)<l.length-j;omega):p:=h
theorem jk {p:Prop} (h:p:=by rw [ae];exact List.mem_cons_self):p:=h
theorem uR {p:Prop} (h:p:=by rw [br];exact aH.du _):p:=h
theorem o4 {p:Prop} (h:p:=by rw [ae];simp):p:=h
namespace Go.Proofs.YtnafpeohfbglmaaGreat
open Go.cW Go.dv
theorem Lr:∀ {g:List b7} {len i k:Nat} {x:b7},oZ len i g=true→g[k]? = some x→iq len (i+k) x=true
  | y::r,len,i,0,x,h,ab=>by
    rw [oZ,f7] at h;simp at ab;subst ab;exact h.1
  | y::r,len,i,k+1,x,h,ab=>by
    rw [oZ,f7] at h;have:=Lr (k:=k) h.2 (by simpa using ab);rw [show i+(k+1)=i+1+k by omega];exact this
theorem uS {g:List b7} {k:Nat} {x:b7} (h:hI g=true) (ab:g[k]? = some x):iq g.length k x=true:=by
 unfold hI at h;simp only [f7] at h;have:=Lr h.2.2 ab;rwa [ae4] at this
theorem wO {g:List b7} (h:hI g=true):1≤g.length∧g.length≤300:=by
 unfold hI at h;simp only [f7,g8] at h;exact ⟨h.1,h.2.1⟩
theorem Dg:∀ (g:List b7) (i:Nat),(hV i g).length=g.length
 | [],_=>rfl
 | x::r,i=>by rw [hV,i8,i8,Dg r]
theorem Dh {l:List Int} {j:Nat} {n:Int} (az:0≤n) (h:∀ v∈l,0≤v∧v≤n):0≤l.getD j 0∧l.getD j 0≤n:=by
 rw [d6];cases aK:l[j]? with
 | none=>exact ⟨ai0 _,az⟩
 | some v=>exact h v (d5 aK)
theorem AB:∀ (g:List b7) (i:Nat),∀ v∈hV i g,0≤v∧v≤g.length
  | [],_,v,h=>by cases h
  | x::r,i,v,h=>by
    have a6:=AB r (i+1);have U:=Dh (j:=x.no.toNat-(i+1)) ag a6;have ae:=Dh (j:=x.yes.toNat-(i+1)) ag a6;rw [hV] at h;rw [i8];rcases ad1.1 h with rfl|h
    · split<;>omega
    · have:=a6 v h;omega
def ju (g:List b7) (j:Nat):List Int:=t7 j 0++hV j (g.drop j)
theorem Ls {g:List b7} {j:Nat} (h:j≤g.length):(ju g j).length=g.length:=by
 unfold ju;rw [f8,ad9,Dg,ag2];omega
theorem Lt {g:List b7} {k:Nat} {n:Int} (U:n>(k:Int)) (ae:n<(g.length:Int)):((ju g (k+1)).map bb)[n.toNat*1]? = some (.int .i64 ((hV (k+1) (g.drop (k+1))).getD (n.toNat-(k+1)) 0)):=by
 have aB:n.toNat<(ju g (k+1)).length:=by rw [Ls ag];omega
 unfold ju at aB ⊢;rw [ag7,ad2,ad5 cE,ad9,d6];rw [f8,ad9] at aB;rw [g6 ag];rfl
theorem TT {g:List b7} {k:Nat} {x:b7} {v:Int} (ab:g[k]? = some x) (a8:x.atom≥0) (av:v=1+max ((hV (k+1) (g.drop (k+1))).getD (x.no.toNat-(k+1)) 0) ((hV (k+1) (g.drop (k+1))).getD (x.yes.toNat-(k+1)) 0)) :
  eU (k*1) [.int .i64 v] ((ju g (k+1)).map bb)=(ju g k).map bb:=by
 rw [pT,ag7];unfold ju;rw [drop_cons ab,hV,f9 a8,← av,am2,ae',ac2,ac2,aj1 _ _ ba];simp [bb]
theorem TU {g:List b7} {k:Nat} {x:b7} (ab:g[k]? = some x) (a8:¬ x.atom≥0):ju g (k+1)=ju g k:=by
 unfold ju;rw [drop_cons ab,hV,d9 a8,am2,ae'];rfl
theorem TV (g:List b7) (aw:g.length<bu):aR d0 18 [fM g] (.cu [.int .i64 (if hI g then lz g else 0),.int .i64 (if hI g then 0 else 2)]):=by
 have aq:=bC;refine aR.bj ai Tryz.func18 C C fun s I=>?_
 have aZ:=Gs g aw;unfold fM at *;cases ir:hI g with
 | false=>
  rw [ir] at aZ;refine bZ ?_;exact bm I
 | true=>
 rw [ir] at aZ;obtain ⟨lN,eW⟩:=wO ir;have jO:((g.map eP).length:Int)=(g.length:Int):=by rw [f6]
 refine bZ ?_;refine aa.uN ai I g.length C C C C C C C C C C (congrArg (fun z=>some (af.int .i64 z)) jO) (congrArg (fun z=>some (af.int .i64 z)) jO) (by show _*8≤_;omega) ag (fun b I=>?_);rw [show t7 g.length (af.int .i64 0)=(ju g g.length).map bb by unfold ju;rw [ef (i0 _),hV,d7,List.map_replicate];rfl] at I ⊢;refine bB ?_;have hw:H1 .i64 ((g.length:Int)-1)=(g.length:Int)-1:=eo ag ag;refine ad.b0 [0,4] C I (σ:=Nat) (fun j=>[(5,.int .i64 ((j:Int)-1))]) (fun j=>[(.own b,.box 3 ((ju g j).map bb))]) (fun j=>j≤g.length) (fun j=>j) g.length (i0 _) (by repeat (first|exact trivial|refine ⟨⟨_,rfl,aM⟩,?_⟩|refine ⟨⟨_,rfl,aS.of_eq (by (rw [jO,hw]))⟩,?_⟩)) aY ?_;rintro j aK I;refine b2 ?_;cases j with
 | zero=>
  refine ad.cond C (fun h=>by simp at h) (fun _=>?_);refine bB ?_;refine aa.fo ai 0 C C C C C C C C C C ag ?_
  refine aa.j7 ai I C C C C C C a1 C (v := .int .i64 (lz g)) (by
   unfold ju lz
   rw [aj',as4,d8,ad2,g6 (by rw [Dg];omega),d6,g6 (by rw [Dg];omega)];rfl) ?_
  refine eD ?_;exact bm I
 | succ k=>
 have e:(((k+1:Nat):Int)-1)=(k:Int):=by omega
 rw [e];refine ad.cond C (fun _=>?_) (fun h=>by simp at h);obtain ⟨x,ab,bL⟩:=bV (f:=eP) (show k<g.length by omega);have aW:=uS ir ab;unfold eP gY bg at bL;refine dC ?_;refine ad.cond C (fun a8=>?_) (fun a8=>?_);rotate_left
 ·have a8:¬ x.atom≥0:=by simpa using a8
  rw [TU ab a8] at I ⊢;refine fR ?_;exact bn.mk k I (by show k≤g.length;omega) (by repeat (first|exact trivial|refine ⟨⟨_,rfl,aM⟩,?_⟩|refine ⟨⟨_,rfl,aS.of_eq yn⟩,?_⟩)) aY (by show k<k+1;omega)
 have a8:x.atom≥0:=by simpa using a8
 have en:=(kn ag).1 aW;have hF:=Dh (j:=x.no.toNat-(k+1)) (n:=300) ag (fun v av=>⟨(AB (g.drop (k+1)) (k+1) v av).1,by have:=(AB (g.drop (k+1)) (k+1) v av).2;rw [ag2] at this;omega⟩);have abE:=Dh (j:=x.yes.toNat-(k+1)) (n:=300) ag (fun v av=>⟨(AB (g.drop (k+1)) (k+1) v av).1,by have:=(AB (g.drop (k+1)) (k+1) v av).2;rw [ag2] at this;omega⟩)
 have vK:=TT ab a8 (v:=H1 .i64 (1+(if (hV (k+1) (g.drop (k+1))).getD (x.yes.toNat-(k+1)) 0>(hV (k+1) (g.drop (k+1))).getD (x.no.toNat-(k+1)) 0 then (hV (k+1) (g.drop (k+1))).getD (x.yes.toNat-(k+1)) 0 else (hV (k+1) (g.drop (k+1))).getD (x.no.toNat-(k+1)) 0))) (by
  rw [eo (by split<;>omega) (by split<;>omega)];split<;>omega)
 refine n4 ?_;refine aJ.fo ai x.no.toNat C C C C C C C C C ag ag ?_;refine aJ.j7 ai I C C C C C C a1 C (Lt en.2.2.1 en.2.2.2.1) ?_;refine c3 ?_;refine aJ.fo ai x.yes.toNat C C C C C C C C C ag ag ?_;refine aJ.j7 ai I C C C C C C a1 C (Lt en.2.2.2.2.1 en.2.2.2.2.2.1) ?_;refine c3 ?_;refine aJ.fo ai k C C C C C C C C C C ag ?_;refine aJ.j8 ai I _ C C C C C C C C C C a1 (by rw [f6,Ls ag];show k*1+1≤_;omega) vK (fun I=>?_);refine fR ?_;exact bn.mk k I (by show k≤g.length;omega) (by repeat (first|exact trivial|refine ⟨⟨_,rfl,aM⟩,?_⟩|refine ⟨⟨_,rfl,aS.of_eq yn⟩,?_⟩)) aY (by show k<k+1;omega)
theorem TW (x y:b7) (ab:x.ms.length<bu) (ay:y.ms.length<bu):aR d0 66 [eP x,eP y] (.bool (x==y)):=by
 have aq:=bC;refine aR.bj ai Tryz.func66 C C fun s I=>?_
 have U:=tt x.ms y.ms ab ay;have he:(x==y)=(decide (x.atom=y.atom)&&(decide (x.no=y.no)&&(decide (x.yes=y.yes)&&x.ms==y.ms))):=by
  obtain ⟨a,b,c,d⟩:=x;obtain ⟨da,aX,o0,c6⟩:=y;rw [ad3];simp
 unfold eP gY bg at *
 repeat' (first|(with_reducible first|apply ad.seq|apply bY|apply ad.ret)|refine cT C ?_|refine ad.cB ?_|refine aa.nil ?_|refine cx C ?_|refine aa.skip C C C ?_|refine aa.dQ C C C C C ch ?_|(fail_if_success refine aa.same true C ?_);(fail_if_success refine aa.same false C ?_);refine aa.gA C C (fun h=>?_) (fun h=>?_))
 all_goals (refine Fin.cp I C (aS.of_eq (congrArg af.bool ?_));rw [he];clear I U he;grind)
theorem Lu (a b:List b7) (a8:a.length<bu) (dO:b.length<bu) (TX:∀ x∈a,x.ms.length<bu) (wK:∀ x∈b,x.ms.length<bu):aR d0 15 [fM a,fM b] (.bool (a==b)):=by
 have aq:=bC;refine aR.bj ai Tryz.func15 C C fun s I=>?_
 unfold fM;refine b2 ?_;refine ad.cond C (fun cO=>?_) (fun heq=>?_)
 ·have cO:a.length≠b.length:=by simp at cO;omega
  have:(a==b)=false:=by rw [beq_eq_false_iff_ne];rintro rfl;exact cO C
  rw [this];refine gH ?_;exact bm I
 have heq:a.length=b.length:=by simp at heq;omega
 refine jh ?_;refine ad.b0 [0,1] C I (σ:=Nat) (fun j=>[(5,.int .i64 (j:Int))]) (fun _=>[]) (fun j=>j≤a.length∧(a==b)=(a.drop j==b.drop j)) (fun j=>a.length-j) 0 ⟨g7 _,by simp⟩ (ck C) .nil ?_;rintro j ⟨aK,ak⟩ I
 try simp only at aK ak I ⊢
 refine b2 ?_;refine ad.cond C (fun ar=>?_) (fun aV=>?_);rotate_left
 ·have aV:j=a.length:=by simp at aV;omega
  rw [ef ag,ef (l:=b) ag] at ak;rw [ak];refine dB ?_;exact bm I
 have ar:j<a.length:=by simpa using ar
 obtain ⟨x,ab,bL⟩:=bV (f:=eP) ar;obtain ⟨y,ay,c'⟩:=bV (f:=eP) (show j<b.length by omega);have au:=TW x y (TX x (d5 ab)) (wK y (d5 ay));rw [drop_cons ab,drop_cons ay,List.cons_beq_cons] at ak;unfold eP gY bg at bL c' au;cases aA:x==y with
 | false=>
  rw [aA] at au;rw [ak,aA,f5];refine bZ ?_;exact bm I
 | true=>
  rw [aA] at au;rw [aA,f0] at ak;refine bZ ?_;exact bn.mk (j+1) I ⟨ar,ak⟩ b' .nil CV
theorem TY (g:List b7) (aw:g.length<bu) (hm:∀ x∈g,x.ms.length<bu):aR d0 69 [fM g] (.bool (hI g)):=by
 have aq:=bC;refine aR.bj ai Tryz.func69 C C fun s I=>?_
 unfold fM;have dE:hI g=hI g:=rfl
 conv at dE=>rhs;unfold hI
 refine dL ?_;by_cases g1:g.length=0
 ·refine aa.ds 9 C (by simp [g1]) ?_
  rw [show decide (1≤g.length)=false by simp [g1],f5] at dE;rw [dE];refine ew ?_;exact bm I
 refine aa.c2 9 C cE ?_;rw [show decide (1≤g.length)=true by simp;omega,f0] at dE;refine fI ?_;refine ad.cond C (fun g2=>?_) (fun g2=>?_)
 ·rw [show decide (g.length≤300)=false by simp at g2 ⊢;omega,f5] at dE
  rw [dE];refine gH ?_;exact bm I
 have g2:g.length≤300:=by simp at g2;omega
 rw [i6 g2,f0] at dE;rw [dE];refine jh ?_;refine ad.b0 [0] C I (σ:=Nat) (fun j=>[(3,.int .i64 (j:Int))]) (fun _=>[]) (fun j=>j≤g.length∧oZ g.length 0 g=oZ g.length j (g.drop j)) (fun j=>g.length-j) 0 ⟨g7 _,rfl⟩ (ck C) aY ?_;rintro j ⟨aK,ak⟩ I
 try simp only at aK ak I ⊢
 refine b2 ?_;refine ad.cond C (fun ar=>?_) (fun aV=>?_);rotate_left
 ·have aV:j=g.length:=by simp at aV;omega
  rw [ef ag,oZ] at ak;rw [ak];refine dB ?_;exact bm I
 have ar:j<g.length:=by simpa using ar
 obtain ⟨x,ab,bL⟩:=bV (f:=eP) ar;have Di:=hm x (d5 ab);rw [drop_cons ab,oZ] at ak;unfold eP gY bg at bL;refine ea ?_;refine ad.cond C (fun a8=>?_) (fun a8=>?_);rotate_left
 ·have a8:x.atom ≠ -1:=by simpa using a8
  refine dC ?_;by_cases U:x.atom<0
  ·refine aa.ds 75 C cE ?_
   refine e5 ?_;rw [ak,show iq g.length j x=false from ad0.2 (fun h=>by have:=(kn a8).1 h;omega),f5];skip;exact bm I
  refine aa.c2 75 C cE ?_;refine dS ?_;by_cases ae:x.atom≥7
  ·refine aa.ds 80 C cE ?_
   refine e5 ?_;rw [ak,show iq g.length j x=false from ad0.2 (fun h=>by have:=(kn a8).1 h;omega),f5];skip;exact bm I
  refine aa.c2 80 C cE ?_;refine dS ?_;by_cases an:x.no≤(j:Int)
  ·refine aa.ds 86 C cE ?_
   refine e5 ?_;rw [ak,show iq g.length j x=false from ad0.2 (fun h=>by have:=(kn a8).1 h;omega),f5];skip;exact bm I
  refine aa.c2 86 C cE ?_;refine dS ?_;by_cases bd:x.no≥(g.length:Int)
  ·refine aa.ds 93 C cE ?_
   refine e5 ?_;rw [ak,show iq g.length j x=false from ad0.2 (fun h=>by have:=(kn a8).1 h;omega),f5];skip;exact bm I
  refine aa.c2 93 C cE ?_;refine dS ?_;by_cases bD:x.yes≤(j:Int)
  ·refine aa.ds 99 C cE ?_
   refine e5 ?_;rw [ak,show iq g.length j x=false from ad0.2 (fun h=>by have:=(kn a8).1 h;omega),f5];skip;exact bm I
  refine aa.c2 99 C cE ?_;refine dS ?_;by_cases fk:x.yes≥(g.length:Int)
  ·refine aa.ds 106 C cE ?_
   refine e5 ?_;rw [ak,show iq g.length j x=false from ad0.2 (fun h=>by have:=(kn a8).1 h;omega),f5];skip;exact bm I
  refine aa.c2 106 C cE ?_;refine fI ?_;refine ad.cond C (fun bD=>?_) (fun bD=>?_)
  ·have bD:x.ms.length≠0:=by simp at bD;omega
   rw [ak,show iq g.length j x=false from ad0.2 (fun h=>by have:=(kn a8).1 h;omega),f5];refine jg ?_;exact bm I
  have ij:x.ms.length=0:=by simp at bD;rw [bD];rfl
  rw [(kn a8).2 ag,f0] at ak;refine fR ?_;exact bn.mk (j+1) I ⟨ar,ak⟩ b' aY tg
 have a8:x.atom = -1:=by simpa using a8
 refine jM ?_;by_cases U:x.no=0;rotate_left
 ·refine aa.ds 30 C th ?_
  refine e5 ?_;rw [ak,show iq g.length j x=false from ad0.2 (fun h=>by have:=(nF a8).1 h;omega),f5];skip;exact bm I
 refine aa.c2 30 C th ?_;refine dS ?_;by_cases ae:x.yes=0;rotate_left
 ·refine aa.ds 35 C qg ?_
  refine e5 ?_;rw [ak,show iq g.length j x=false from ad0.2 (fun h=>by have:=(nF a8).1 h;omega),f5];skip;exact bm I
 refine aa.c2 35 C qg ?_;refine fI ?_;refine ad.cond C (fun an=>?_) (fun an=>?_)
 ·rw [ak,show iq g.length j x=false from ad0.2 (fun h=>by have:=(nF a8).1 h;simp at an;omega),f5]
  refine jg ?_;exact bm I
 have an:x.ms.length≤16:=by simp at an;omega
 refine jh ?_;refine ad.b0 [0,3,4] C I (σ:=Nat) (fun k=>[(5,.int .i64 (k:Int))]) (fun _=>[]) (fun k=>k≤x.ms.length∧qL x.ms=mz (if k=0 then none else x.ms[k-1]?) (x.ms.drop k)) (fun k=>x.ms.length-k) 0 ⟨g7 _,Ln _⟩ (ck C) aY ?_;rintro k ⟨aD,bh⟩ I
 try simp only at aD bh I ⊢
 refine b2 ?_;refine ad.cond C (fun cC=>?_) (fun dm=>?_);rotate_left
 ·have dm:k=x.ms.length:=by simp at dm;omega
  rw [ef ag,mz] at bh;rw [(nF a8).2 ⟨U,ae,an,bh⟩,f0] at ak;refine dB ?_;exact bn.mk (j+1) I ⟨ar,ak⟩ b' aY tg
 have cC:k<x.ms.length:=by simpa using cC
 obtain ⟨y,ay,c'⟩:=bV (f:=bb) cC;rw [drop_cons ay] at bh;unfold bb at c';refine n4 ?_;by_cases bd:y<0
 ·refine aJ.split 54 C (fun _=>?_) (fun h=>by simp at h;omega)
  have bh:qL x.ms=false:=by
   rw [bh];cases (if k=0 then none else x.ms[k-1]?)<;>rw [mz,show decide (y≥0)=false by simp;omega,f5]
  rw [ak,show iq g.length j x=false from ad0.2 (fun h=>by have:=((nF a8).1 h).2.2.2;rw [bh] at this;cases this),f5];refine hk ?_;exact bm I
 refine aJ.split 54 C (fun h=>by simp at h;omega) (fun _=>?_);have nm:decide (y≥0)=true:=by simp;omega
 cases k with
 | zero=>
  rw [f9 C,mz,nm,f0] at bh;refine jN ?_;exact bn.mk 1 I ⟨cC,by rw [d9 ag];simpa [ay] using bh⟩ (by repeat (first|exact trivial|refine ⟨⟨_,rfl,aM⟩,?_⟩|refine ⟨⟨_,rfl,aS.of_eq CU⟩,?_⟩)) aY (by show x.ms.length-1<x.ms.length-0;omega)
 | succ k=>
 rw [d9 ag,Nat.add_sub_cancel] at bh;obtain ⟨z,bO,qQ⟩:=bV (f:=bb) (show k<x.ms.length by omega);rw [bO,mz,nm,f0] at bh;unfold bb at qQ;refine ly ?_;refine aJ.split 57 C (fun _=>?_) (fun h=>by simp at h);refine c3 ?_;refine aJ.idx k C C C C C C C C C C (by rw [eo ag ag];push_cast;omega) qQ C ?_;refine jN ?_;refine ad.cond C (fun bD=>?_) (fun bD=>?_)
 ·rw [show decide (z<y)=false by simp at bD ⊢;omega,f5] at bh
  rw [ak,show iq g.length j x=false from ad0.2 (fun h=>by have:=((nF a8).1 h).2.2.2;rw [bh] at this;cases this),f5];refine jg ?_;exact bm I
 rw [show decide (z<y)=true by simp at bD ⊢;omega,f0] at bh;refine fR ?_;exact bn.mk (k+2) I ⟨cC,by rw [d9 ag];simpa [ay] using bh⟩ (by repeat (first|exact trivial|refine ⟨⟨_,rfl,aM⟩,?_⟩|refine ⟨⟨_,rfl,aS.of_eq z6⟩,?_⟩)) aY (by show x.ms.length-(k+2)<x.ms.length-(k+1);omega)
abbrev ko:=List (Int×af)
def pV (l:ko):List (af×af):=l.map fun e=>(.int .i64 e.1,e.2)
def oe (l:ko) (n:Int):Option af:=(l.find? fun e=>n==e.1).map (·.2)
def r3:ko→Int→af→ko
 | [],n,v=>[(n,v)]
 | e::r,n,v=>if n==e.1 then (n,v)::r else e::r3 r n v
theorem Gz:∀ (l:ko) (n m:Int) (v:af),oe (r3 l n v) m=if m=n then some v else oe l m
  | [],n,m,v=>by
    unfold r3 oe;by_cases h:m=n
    · subst h;simp
    · have:(m==n)=false:=by simpa using h
      simp [h,this]
  | (k,x)::r,n,m,v=>by
    have a6:=Gz r n m v;rw [r3];by_cases h:n=k
    · subst h
      rw [f9 ba];unfold oe;by_cases ae:m=n
      · subst ae;simp
      · have:(m==n)=false:=by simpa using ae
        simp [ae,this]
    · rw [d9 fZ]
      unfold oe at a6 ⊢;by_cases ae:m=k
      · subst ae
        have:¬ m=n:=fun e=>h e.symm
        simp [this]
      · have an:(m==k)=false:=by simpa using ae
        simp only [au4,an];exact a6
theorem uT (n:Int):∀ l:ko,jb (pV l) (.int .i64 n)=some (oe l n)
  | []=>rfl
  | (k,x)::r=>by
    have a6:=uT n r;unfold pV oe at *;rw [ac4,jb];by_cases h:n=k
    · subst h;simp [ke]
    · have an:(n==k)=false:=by simpa using h
      simp only [ke,an,au4];simpa using a6
theorem uU (n:Int) (v:af):∀ l:ko,lO (pV l) (.int .i64 n) v=some (pV (r3 l n v))
  | []=>rfl
  | (k,x)::r=>by
    have a6:=uU n v r;unfold pV at *;rw [ac4,lO,r3];by_cases h:n=k
    · subst h;simp [ke]
    · have an:(n==k)=false:=by simpa using h
      simp only [ke,an];simp [a6]
def pW {α:Type} (e:α→α→Bool):List α→List α→Bool
 | [],[]=>true
 | x::r,y::t=>e x y&&pW e r t
 | _,_=>false
theorem Lv {α:Type} (e:α→α→Bool):∀ (a b:List α),a.length≠b.length→pW e a b=false
 | [],[],h=>absurd C h
 | [],_::_,_=>rfl
 | _::_,[],_=>rfl
 | x::r,y::t,h=>by rw [pW,Lv e r t fZ,ai2]
theorem TZ (fv:af) (e:aj→aj→Bool) (a b:List aj) (aB:a.length<bu) (Ak:b.length<bu) (bq:∀ x∈a,∀ y∈b,eE d0 fv [aj.bJ x,aj.bJ y] (.bool (e x y))) :
  aR d0 94 [.aC 6 (a.map aj.bJ) .bc,.aC 6 (b.map aj.bJ) .bc,fv] (.bool (pW e a b)):=by
 have aq:=bC;refine aR.bj ai Tryz.func94 C C fun s I=>?_
 refine b2 ?_;refine ad.cond C (fun h=>?_) (fun h=>?_)
 ·have cO:a.length≠b.length:=by simp at h;omega
  rw [Lv e a b cO];refine gH ?_;exact bm I
 ·have eW:a.length=b.length:=by simp at h;omega
  refine jh ?_;refine ad.b0 [0,1,2,15,16] C I (σ:=Nat) (fun j=>[(17,.int .i64 (j:Int))]) (fun _=>[]) (fun j=>j≤a.length∧pW e a b=pW e (a.drop j) (b.drop j)) (fun j=>a.length-j) 0 ⟨g7 _,rfl⟩ (ck C) aY ?_;rintro j ⟨aK,ak⟩ I;refine b2 ?_;refine ad.cond C (fun ar=>?_) (fun aV=>?_);rotate_left;have aV:j=a.length:=by
   have:a.length≤j:=by simpa using aV
   omega
  ·rw [ef ag,ef ag] at ak
   rw [ak];refine dB ?_;exact bm I
  have ar:j<a.length:=by simpa using ar
  obtain ⟨x,ab,bL⟩:=bV (f:=aj.bJ) ar;obtain ⟨y,ay,c'⟩:=bV (f:=aj.bJ) (by omega:j<b.length);have aA:=bq x (d5 ab) y (d5 ay);rw [aj.bW] at bL;rw [aj.bW] at c';rw [aj.bW,aj.bW] at aA;rw [drop_cons ab,drop_cons ay,pW] at ak;refine dC ?_;refine aa.d' ai I C C C C C C C (fun hP I=>?_);refine Kh I ?_;intro I;refine aa.d' ai I C C C C C C C (fun dA I=>?_);refine Kh I ?_;intro I;refine aa.mr C C C C C C aA ?_;cases av:e x y with
  | false=>
   rw [ak,av,f5];refine e5 ?_;exact bm I
  | true=>
   rw [av,f0] at ak;refine bB ?_;refine bn.mk (j+1) I ⟨ar,ak⟩ b' aY CV
theorem AD {α:Type} (q:α→Bool) (l:List α):(!l.any fun x => !q x)=l.all q:=by
 induction l with
 | nil=>rfl
 | cons x r a6=>rw [List.any_cons,ah1,Bool.not_or,Bool.not_not,a6]
theorem T0 (fv:af) (q:Bool) (x:aj) (h:eE d0 fv [aj.bJ x] (.bool q)):eE d0 (.func 234 [] [.bA [fv] 0]) [aj.bJ x] (.bool (!q)):=by
 refine eE.fp (first:=[]) (cap:=[.bA [fv] 0]) ?_;refine aR.bj ai Tryz.func234 C C fun s I=>?_
 rw [aj.bW] at h ⊢;refine dL ?_;refine aa.mr C C C C C C h ?_;refine eD ?_;exact bm I
theorem T1 (f:FuncId) (iu hr:List af) (q:aj→Bool) (xs:List aj) (aB:xs.length<bu) (h:∀ x∈xs,eE d0 (.func f iu hr) [aj.bJ x] (.bool (q x))) :
  aR d0 200 [.aC 6 (xs.map aj.bJ) .bc,.func f iu hr] (.bool (xs.all q)):=by
 rw [← AD];refine aR.bj ai Tryz.func200 C C fun s I=>?_
 have aA:=Tz (.func 234 [] [.bA [.func f iu hr] 0]) (fun x => !q x) xs aB (fun x ab=>T0 (.func f iu hr) (q x) x (h x ab));refine dL ?_;refine aa.dQ C C C C C aA ?_;refine eD ?_;exact bm I
def pX (x:aj×Bool):List af:=x.1.cells++[.bool x.2]
def h4 (x:aj×Bool):af := .agg (pX x)
theorem GA (l:List Int):∀ y∈l.map bb,kh 1 y=true:=by
 intro y ay;obtain ⟨z,-,rfl⟩:=ad7.1 ay;first|rfl|(rw [bb];rfl)
theorem AE (l:List Int) (own:bM) (aB:l.length<bu):aR d0 47 [.aC 1 (l.map bb) own] (.aC 1 (l.map bb) .bc):=by
 have aq:=bC;refine aR.bj ai Tryz.func47 C C fun s I=>?_
 refine dL ?_;refine aa.op C C C (a7.Gm ai C C C C (X:=fun _ _=>False)) ?_ (fun _ _ h=>False.elim h);rintro r al ⟨rfl,⟨rfl,az⟩|rfl⟩
 ·refine ew ?_
  refine Fin.cp I C ?_;rw [az];exact aS.empty
 ·refine bB ?_
  refine aa.rO ai C C C C C C C et C C C (.inl C) (.inr C) C (GA _) (by simp only [ae0,ae4,f6];show _*8≤_;omega) Gy (.inr C) ?_;refine eD ?_;exact bm I
theorem T2 (l:List (aj×Bool)):∀ y∈l.map h4,kh 7 y=true:=by
 intro y ay;obtain ⟨z,-,rfl⟩:=ad7.1 ay;first|rfl|(rw [h4];rfl)
theorem T3 (xs:List af) (own:bM):aR d0 193 [.aC 2 xs own] (.aC 2 xs .clip):=by
 refine aR.bj ai Tryz.func193 C C fun s I=>?_
 refine dL ?_;refine aa.slice ai 0 xs.length C C C C C C C C (.inr C) (.inl ⟨rfl,rfl⟩) (.inr ⟨_,_,rfl,rfl⟩) (.inr ⟨_,_,rfl,rfl,rfl⟩) ag (i0 _) ?_;rw [ac6,aj'];refine eD ?_;exact bm I
theorem GB (xs:List af) (own:bM):aR d0 194 [.aC 1 xs own] (.aC 1 xs .clip):=by
 refine aR.bj ai Tryz.func194 C C fun s I=>?_
 refine dL ?_;refine aa.slice ai 0 xs.length C C C C C C C C (.inr C) (.inl ⟨rfl,rfl⟩) (.inr ⟨_,_,rfl,rfl⟩) (.inr ⟨_,_,rfl,rfl,rfl⟩) ag (i0 _) ?_;rw [ac6,aj'];refine eD ?_;exact bm I
theorem T4 (xs:List af) (own:bM):aR d0 262 [.aC 1 xs own] (.aC 1 xs .clip):=by
 refine aR.bj ai Tryz.func262 C C fun s I=>?_
 refine dL ?_;refine aa.slice ai 0 xs.length C C C C C C C C (.inr C) (.inl ⟨rfl,rfl⟩) (.inr ⟨_,_,rfl,rfl⟩) (.inr ⟨_,_,rfl,rfl,rfl⟩) ag (i0 _) ?_;rw [ac6,aj'];refine eD ?_;exact bm I
theorem T5 (fv:af) (q:Bool) (x:Int) (h:eE d0 fv [bb x] (.bool q)):eE d0 (.func 233 [] [.bA [fv] 0]) [bb x] (.bool (!q)):=by
 refine eE.fp (first:=[]) (cap:=[.bA [fv] 0]) ?_;refine aR.bj ai Tryz.func233 C C fun s I=>?_
 rw [bb] at h ⊢;refine dL ?_;refine aa.mr C C C C C C h ?_;refine eD ?_;exact bm I
theorem Lw (f:FuncId) (iu hr:List af) (q:Int→Bool) (xs:List Int) (aB:xs.length<bu) (h:∀ x∈xs,eE d0 (.func f iu hr) [bb x] (.bool (q x))) :
  aR d0 198 [.aC 1 (xs.map bb) .bc,.func f iu hr] (.bool (xs.all q)):=by
 rw [← AD];refine aR.bj ai Tryz.func198 C C fun s I=>?_
 have aA:=TC (.func 233 [] [.bA [.func f iu hr] 0]) (fun x => !q x) xs aB (fun x ab=>T5 (.func f iu hr) (q x) x (h x ab));refine dL ?_;refine aa.dQ C C C C C aA ?_;refine eD ?_;exact bm I
theorem T6 (fv:af) (q:Bool) (x:(Int×Int)) (h:eE d0 fv [eJ x] (.bool q)):eE d0 (.func 208 [] [.bA [fv] 0]) [eJ x] (.bool (!q)):=by
 refine eE.fp (first:=[]) (cap:=[.bA [fv] 0]) ?_;refine aR.bj ai Tryz.func208 C C fun s I=>?_
 rw [eJ] at h ⊢;refine dL ?_;refine aa.mr C C C C C C h ?_;refine eD ?_;exact bm I
theorem Lx (f:FuncId) (iu hr:List af) (q:(Int×Int)→Bool) (xs:List (Int×Int)) (aB:xs.length<bu) (h:∀ x∈xs,eE d0 (.func f iu hr) [eJ x] (.bool (q x))) :
  aR d0 168 [.aC 2 (xs.map eJ) .bc,.func f iu hr] (.bool (xs.all q)):=by
 rw [← AD];refine aR.bj ai Tryz.func168 C C fun s I=>?_
 have aA:=TF (.func 208 [] [.bA [.func f iu hr] 0]) (fun x => !q x) xs aB (fun x ab=>T6 (.func f iu hr) (q x) x (h x ab));refine dL ?_;refine aa.dQ C C C C C aA ?_;refine eD ?_;exact bm I
theorem T7 (fv:af) (q:Bool) (x:dD) (h:eE d0 fv [ho x] (.bool q)):eE d0 (.func 240 [] [.bA [fv] 0]) [ho x] (.bool (!q)):=by
 refine eE.fp (first:=[]) (cap:=[.bA [fv] 0]) ?_;refine aR.bj ai Tryz.func240 C C fun s I=>?_
 rw [ho] at h ⊢;refine dL ?_;refine aa.mr C C C C C C h ?_;refine eD ?_;exact bm I
theorem T8 (f:FuncId) (iu hr:List af) (q:dD→Bool) (xs:List dD) (aB:xs.length<bu) (h:∀ x∈xs,eE d0 (.func f iu hr) [ho x] (.bool (q x))) :
  aR d0 203 [.aC 2 (xs.map ho) .bc,.func f iu hr] (.bool (xs.all q)):=by
 rw [← AD];refine aR.bj ai Tryz.func203 C C fun s I=>?_
 have aA:=TI (.func 240 [] [.bA [.func f iu hr] 0]) (fun x => !q x) xs aB (fun x ab=>T7 (.func f iu hr) (q x) x (h x ab));refine dL ?_;refine aa.dQ C C C C C aA ?_;refine eD ?_;exact bm I
theorem GC (f:aj):aR d0 171 [f.bJ] (.bool f.cU):=by
 have aq:=bC;refine aR.bj ai Tryz.func171 C C fun s I=>?_
 rw [aj.bW]
 repeat' (first|(with_reducible first|apply ad.seq|apply bY|apply ad.ret)|refine cT C ?_|refine ad.cB ?_|refine aa.nil ?_|refine cx C ?_|refine aa.skip C C C ?_|(fail_if_success refine aa.same true C ?_);(fail_if_success refine aa.same false C ?_);refine aa.gA C C (fun h=>?_) (fun h=>?_))
 all_goals exact Fin.cp I C (aS.of_eq (by first|(simp_all [aj.cU];done)|(simp_all [aj.cU]<;>omega)))
theorem T9 (op:Int):aR d0 235 [.int .i64 op] (.int .i64 (pQ op)):=by
 have aq:=bC;refine aR.bj ai Tryz.func235 C C fun s I=>?_
 repeat' (first|(with_reducible first|apply ad.seq|apply bY|apply fm|apply fg|apply gG|apply ad.ret|apply ad.skip|apply ad.block)|refine cT C ?_|refine ad.cond C (fun h=>?_) (fun h=>?_))
 all_goals exact Fin.cp I C (aS.of_eq (by first|(simp_all [pQ];done)|(simp_all [pQ]<;>omega)))
theorem Ly (f g:aj) (aZ:f.path.length<bu) (aw:g.path.length<bu):aR d0 104 [f.bJ,g.bJ] (.bool (decide (f.op=g.op)&&(decide (f.arg=g.arg)&&(decide (f.cls=g.cls)&&(decide (f.n=g.n)&&f.path==g.path))))):=by
 have aq:=bC;refine aR.bj ai Tryz.func104 C C fun s I=>?_
 rw [aj.bW,aj.bW];have U:=Aj f.path g.path aZ aw;unfold bg bb at U
 repeat' (first|(with_reducible first|apply ad.seq|apply bY|apply ad.ret)|refine cT C ?_|refine ad.cB ?_|refine aa.nil ?_|refine cx C ?_|refine aa.skip C C C ?_|refine aa.dQ C C C C C ch ?_|(fail_if_success refine aa.same true C ?_);(fail_if_success refine aa.same false C ?_);refine aa.gA C C (fun h=>?_) (fun h=>?_))
 all_goals exact Fin.cp I C (aS.of_eq qS)
theorem T' {m c n:Nat} (h:m<n):m >>> c<n:=by
 rw [Nat.shiftRight_eq_div_pow];exact Nat.lt_of_le_of_lt (Nat.div_le_self _ _) h
theorem Ua (m c:Nat):decide ((((m >>> c) &&& 1:Nat):Int)=1)=m.testBit c:=by
 rw [Nat.testBit,aA0];have h:1 &&& (m >>> c)=(m >>> c) % 2:=by rw [aA0];exact Nat.and_one_is_mod _
 rw [h];rcases Nat.mod_two_eq_zero_or_one (m >>> c) with e|e<;>rw [e]<;>rfl
theorem Lz {c:Nat} (h:c<64):2^c<2^64:=ag1 ag h
theorem yo (m c:Nat) (hm:m<2^64) (aA:c<64):aR d0 173 [.int .u64 (m:Int),.int .i64 (c:Int)] (.bool (m.testBit c)):=by
 have aq:=bC;refine aR.bj ai Tryz.func173 C C fun s I=>?_
 refine dL ?_;refine aa.shr ((m >>> c:Nat):Int) C C C C C C ag (tn aA) ?_;refine aa.bits (((m >>> c) &&& 1:Nat):Int) C C C C C C (uH (T' hm) dW) ?_;refine eD ?_;refine Fin.cp I C (aS.of_eq ?_);rw [← Ua];rfl
theorem AF (m c:Nat) (hm:m<2^64) (aA:c<64):aR d0 197 [.int .u64 (m:Int),.int .i64 (c:Int)] (.int .u64 ((m|||2^c:Nat):Int)):=by
 have aq:=bC;refine aR.bj ai Tryz.func197 C C fun s I=>?_
 refine dL ?_;refine aa.shl ((2^c:Nat):Int) C C C C C C ag (C2 aA) ?_;refine aa.bits ((m|||2^c:Nat):Int) C C C C C C (wC hm (Lz aA)) ?_;refine eD ?_;exact bm I
def pY (w:bx) (up:List Nat):List af:=eO w++up.map fun n => .int .u64 (n:Int)
def e6 (w:bx) (up:List Nat):af := .bA (pY w up) 0
theorem LA (w:bx) (up:List Nat) (c:Int) (hw:w.ps.length≤60):aR d0 199 [e6 w up,.int .i64 c] (.bool (decide (c≥3)&&decide (c<3+(w.ps.length:Int)))):=by
 have aq:=bC;refine aR.bj ai Tryz.func199 C C fun s I=>?_
 unfold e6 pY eO cV bg;have df:H1 .i64 (3+((w.ps.map bg).length:Int))=3+(w.ps.length:Int):=by rw [f6,eo ag ag]
 unfold bg at df
 repeat' (first|(with_reducible first|apply ad.seq|apply bY|apply ad.ret)|refine cT C ?_|refine ad.cB ?_|refine aa.nil ?_|refine cx C ?_|refine aa.skip C C C ?_|(fail_if_success refine aa.same true C ?_);(fail_if_success refine aa.same false C ?_);refine aa.gA C C (fun h=>?_) (fun h=>?_))
 all_goals exact Fin.cp I C (aS.of_eq qS)
theorem Ub (w:bx) (up:List Nat) (c:Int) (hw:w.ps.length≤60):aR d0 237 [e6 w up,.int .i64 c] (.bool (decide (c≥0)&&decide (c<3+(w.ps.length:Int)))):=by
 have aq:=bC;refine aR.bj ai Tryz.func237 C C fun s I=>?_
 unfold e6 pY eO cV bg;have df:H1 .i64 (3+((w.ps.map bg).length:Int))=3+(w.ps.length:Int):=by rw [f6,eo ag ag]
 unfold bg at df
 repeat' (first|(with_reducible first|apply ad.seq|apply bY|apply ad.ret)|refine cT C ?_|refine ad.cB ?_|refine aa.nil ?_|refine cx C ?_|refine aa.skip C C C ?_|(fail_if_success refine aa.same true C ?_);(fail_if_success refine aa.same false C ?_);refine aa.gA C C (fun h=>?_) (fun h=>?_))
 all_goals exact Fin.cp I C (aS.of_eq qS)
theorem Uc (w:bx) (up:List Nat) (c:Int):aR d0 263 [e6 w up,.int .i64 c] (.bool (decide (c≥0)&&decide (c<(w.owner.length:Int)))):=by
 have aq:=bC;refine aR.bj ai Tryz.func263 C C fun s I=>?_
 unfold e6 pY eO cV bg
 repeat' (first|(with_reducible first|apply ad.seq|apply bY|apply ad.ret)|refine cT C ?_|refine ad.cB ?_|refine aa.nil ?_|refine cx C ?_|refine aa.skip C C C ?_|(fail_if_success refine aa.same true C ?_);(fail_if_success refine aa.same false C ?_);refine aa.gA C C (fun h=>?_) (fun h=>?_))
 all_goals exact Fin.cp I C (aS.of_eq qS)
theorem Ud (w:bx) (up:List Nat) (c:Int):eE d0 (.func 263 [e6 w up] []) [bb c] (.bool (decide (c≥0)&&decide (c<(w.owner.length:Int)))):=
 eE.fp (first:=[e6 w up]) (cap:=[]) (Uc w up c)
theorem Ue (w:bx) (up:List Nat) (c:Int) (hw:w.ps.length≤60):eE d0 (.func 199 [e6 w up] []) [bb c] (.bool (decide (c≥3)&&decide (c<3+(w.ps.length:Int)))):=
 eE.fp (first:=[e6 w up]) (cap:=[]) (LA w up c hw)
theorem Uf (w:bx) (up:List Nat) (l:List Int) (aB:l.length<bu):aR d0 236 [e6 w up,bg l] (.bool (decide (l.length≤2)&&l.all fun c=>decide (c≥0)&&decide (c<(w.owner.length:Int)))):=by
 have aq:=bC;refine aR.bj ai Tryz.func236 C C fun s I=>?_
 have U:=Lw 263 [e6 w up] [] _ l aB (fun x _=>Ud w up x);unfold bg;unfold e6 at U ⊢
 repeat' (first|(with_reducible first|apply ad.seq|apply bY|apply ad.ret)|refine cT C ?_|refine ad.cB ?_|refine aa.nil ?_|refine cx C ?_|refine aa.skip C C C ?_|refine aa.dQ C C C C C ch ?_|(fail_if_success refine aa.same true C ?_);(fail_if_success refine aa.same false C ?_);refine aa.gA C C (fun h=>?_) (fun h=>?_))
 all_goals exact Fin.cp I C (aS.of_eq qS)
theorem Ug (b:Bool):aR d0 261 [.bool b] (.int .i64 (if b then 0 else 2)):=by
 have aq:=bC;refine aR.bj ai Tryz.func261 C C fun s I=>?_
 repeat' (first|(with_reducible first|apply ad.seq|apply bY|apply fm|apply ad.ret|apply ad.skip)|refine cT C ?_|refine ad.cond C (fun h=>?_) (fun h=>?_))
 all_goals exact Fin.cp I C (aS.of_eq qS)
def og (m:Nat):af := .agg [.int .u64 (m:Int)]
theorem LB (m c:Nat) (hm:m<2^64) (aA:c<64):aR d0 286 [og m,.int .i64 (c:Int)] (og (m|||2^c)):=by
 have aq:=bC;refine aR.bj ai Tryz.func286 C C fun s I=>?_
 unfold og
 repeat (first|(refine rQ ?_)|refine aa.jL I C C C C C C (fun b I=>?_)|refine aa.d' ai I C C C C C C C (fun cy I=>?_)|(refine Sv ?_))
 refine aJ.arr ai 0 C C C C C C C C C C ag ?_;refine cG I ?_;intro I;refine aJ.shl ((2^c:Nat):Int) C C C C C C ag (C2 aA) ?_;refine aJ.bits ((m|||2^c:Nat):Int) C C C C C C (wC hm (Lz aA)) ?_;refine aJ.arr ai 0 C C C C C C C C C C ag ?_;refine cG I ?_;intro I;exact Fin.cp I (n5 C C (bp.get a1 I) C) aM
theorem Uh (m n:Nat) (hm:m<2^64) (az:n<2^64):aR d0 287 [og m,og n] (og (m|||n)):=by
 have aq:=bC;refine aR.bj ai Tryz.func287 C C fun s I=>?_
 unfold og
 repeat (first|(refine rQ ?_)|refine aa.jL I C C C C C C (fun b I=>?_)|refine aa.d' ai I C C C C C C C (fun cy I=>?_)|(refine Sw ?_))
 refine aa.arr ai 0 C C C C C C C C C C ag ?_;refine cG I ?_;intro I;refine aa.arr ai 0 C C C C C C C C C C ag ?_;refine cG I ?_;intro I;refine aa.bits ((m|||n:Nat):Int) C C C C C C (wC hm az) ?_;refine aa.arr ai 0 C C C C C C C C C C ag ?_;refine cG I ?_;intro I;exact Fin.cp I (n5 C C (bp.get a1 I) C) aM
theorem Ui (h y:Int):eE d0 (.func 308 [] [.bA [.int .i64 h] 0]) [.int .i64 y] (.bool (y != h)):=by
 have aq:=bC;refine eE.fp (first:=[]) (cap:=[.bA [.int .i64 h] 0]) ?_;refine aR.bj ai Tryz.func308 C C fun s I=>?_
 refine gH ?_;exact bm I
theorem Uj {all:List (List Int)} {c:Int} {k:Nat} {m:List Int} (h:all[k]? = some m):free (all.drop k) c=(!(m.drop 1).contains c&&free (all.drop (k+1)) c):=by
 rw [drop_cons h];rfl
theorem Uk (n b:Nat) (iP:n<1000∧b<1000) (all:List (List Int)) (hm:qN n b all):aR d0 293 [cV all] (.cu [bg (merged all).1,.bool (merged all).2]):=by
 have aq:=bC;refine aR.bj ai Tryz.func293 C C fun s I=>?_
 unfold cV;have wI:total all≤n*b:=Db hm;have Tr:n*b≤1000*1000:=Nat.mul_le_mul ag ag;refine bZ ?_;refine ad.h2 I 3 1 0 fun I=>?_
 refine ad.b0 [] C I (σ:=Nat×List (List Int)×List Int×bM) (fun q=>[(0,.aC 1 (q.2.1.map bg) .bc),(4,.aC 1 (q.2.2.1.map bb) q.2.2.2)]) (fun q=>[(q.2.2.2,.row 3 1 q.2.2.1.length)])
  (fun q=>merge q.1 q.2.1 q.2.2.1=merged all∧total q.2.1<q.1∧qN n b q.2.1∧q.2.2.1.length+total q.2.1≤total all) (fun q=>q.1) (total all+1,all,[],.nil) ⟨rfl,aj5 _,hm,by simp⟩ ⟨⟨_,rfl,aM⟩,⟨_,rfl,aS.nil gW⟩,trivial⟩ (aH.du _) ?_
 rintro ⟨f,cur,acc,own⟩ ⟨ed,hH,hm,ux⟩ I;simp only at ed hH hm ux I ⊢;have ct:=hm.len;refine bZ ?_;refine ad.b0 [0,4,14,15] C I (σ:=Nat×Bool) (fun z=>[(5,.bool z.2),(16,.int .i64 (z.1:Int))]) (fun _=>[(own,.row 3 1 acc.length)])
  (fun z=>z.1≤cur.length∧pick cur cur=pick cur (cur.drop z.1)∧(!z.2)=(cur.take z.1).all an3) (fun z=>cur.length-z.1) (0,false) ⟨g7 _,rfl,rfl⟩ (ck C) (aH.du _) ?_
 rintro ⟨j,F9⟩ ⟨aK,ak,hK⟩ I;simp only at aK ak hK I ⊢;refine b2 ?_;refine ad.cond C (fun ar=>?_) (fun aV=>?_);rotate_left
 ·have aV:j=cur.length:=by simp at aV;omega
  subst aV;rw [ef (i0 _)] at ak;rw [ac6] at hK;cases f with
  | zero=>omega
  | succ f=>
   rw [merge,ak] at ed;have ed:(acc,cur.all an3)=merged all:=ed;rw [← ed,← hK];refine bB ?_;exact Fin.cp I C (aS.cu (.cons aS.bc (.one aM)))
 have ar:j<cur.length:=by simpa using ar
 obtain ⟨l,ay,c'⟩:=bV (f:=bg) ar;have KW:=hm.each l (d5 ay);have Al:(cur.take (j+1)).all an3=((cur.take j).all an3&&l.isEmpty):=by rw [iH ay,List.all_append];simp
 unfold bg at c';refine bB ?_;cases l with
 | nil=>
  rw [KU ay] at ak;refine ad.e8 C ?_;refine dB ?_;exact bn.mk (j+1,F9) I ⟨ar,ak,by rw [Al,← hK];simp⟩ b' (aH.du _) (by show cur.length-(j+1)<cur.length-j;omega)
 | cons c r=>
 rw [KV ay] at ak;refine ad.cond C (fun h=>absurd h cE) (fun _=>?_);refine jh ?_;refine ad.b0 [0,4,5,7,14,15,16,23,24] C I (σ:=Nat) (fun k=>[(25,.int .i64 (k:Int))]) (fun _=>[(own,.row 3 1 acc.length)]) (fun k=>k≤cur.length∧free cur c=free (cur.drop k) c) (fun k=>cur.length-k) 0 ⟨g7 _,rfl⟩ (ck C) (aH.du _) ?_;rintro k ⟨aD,bh⟩ I;refine b2 ?_;refine ad.cond C (fun cC=>?_) (fun dm=>?_)
 ·have cC:k<cur.length:=by simpa using cC
  obtain ⟨m,o5,Ul⟩:=bV (f:=bg) cC;have hy:=hm.each m (d5 o5);rw [Uj o5] at bh;have ib:=yd (m.drop 1) c (by rw [ag2];omega);unfold bg at ib Ul;rw [List.map_drop] at ib;have KX:((c::r).map bb)[0]? = some (.int .i64 c):=rfl;cases m with
  | nil=>
   have bh:free cur c=free (cur.drop (k+1)) c:=bh;refine bZ ?_;exact bn.mk (k+1) I ⟨cC,bh⟩ b' (aH.du _) (by show cur.length-(k+1)<cur.length-k;omega)
  | cons x q=>
   refine n4 ?_;refine aJ.gA C C (fun _=>?_) (fun h=>absurd h ba);refine ly ?_;refine aJ.slice 1 ((x::q).map bb).length C C C C C C C C (.inr C) (.inr ⟨_,_,rfl,rfl⟩) (.inl ⟨rfl,rfl,rfl⟩) (.inl ⟨rfl,rfl⟩) ba (i0 _) ?_;rw [ac6];refine c3 ?_;cases bD:((x::q).drop 1).contains c with
   | true=>
    rw [bD,Bool.not_true,f5] at bh;rw [bh,d9 ba] at ak;refine bB ?_;exact bn.mk (j+1,true) I ⟨ar,ak,by rw [Al];simp⟩ b' (aH.du _) (by show cur.length-(j+1)<cur.length-j;omega)
   | false=>
    rw [bD,Bool.not_false,f0] at bh;refine jN ?_;exact bn.mk (k+1) I ⟨cC,bh⟩ b' (aH.du _) (by show cur.length-(k+1)<cur.length-k;omega)
 have dm:k=cur.length:=by simp at dm;omega
 subst dm;rw [ef (i0 _)] at bh;have bh:free cur c=true:=bh;rw [f9 bh] at ak;cases f with
 | zero=>omega
 | succ f=>
 have KY:=C3 (uI ak);rw [merge,ak] at ed;simp only at ed;have KX:((c::r).map bb)[0]? = some (.int .i64 c):=rfl;refine ea ?_;refine aa.gf ai I C C C C C C C et C C C C C C C C a1 hc j2 ag (fun bR I=>?_);refine bB ?_;obtain ⟨xs,cY⟩:∃ xs:Nat→List af,∀ j,xs j=((cur.take j).map (fw c)).map bg:=⟨_,fun _=>rfl⟩;have br:xs 0=[]:=by rw [cY];rfl
 have e7:∀ j,(xs j).length≤cur.length:=fun j=>by
  rw [cY,f6,f6];exact ai6 _ _
 refine ad.h2 I 23 1 0 fun I=>?_
 refine ad.b0 [4,10,48,49] C I (σ:=Nat×bM) (fun q=>[(50,.int .i64 (q.1:Int)),(11,.aC 1 (xs q.1) q.2)]) (fun q=>[(q.2,.row 23 1 (xs q.1).length),(.own bR,.row 3 1 (acc.length+1))]) (fun q=>q.1≤cur.length) (fun q=>cur.length-q.1) (0,.nil) (g7 _) ⟨⟨_,rfl,aM⟩,⟨_,rfl,by rw [br];exact aS.nil gW⟩,trivial⟩ FL ?_;rintro ⟨i,uL⟩ aQ I;simp only at aQ I ⊢;refine b2 ?_;refine ad.cond C (fun j6=>?_) (fun kL=>?_)
 ·have j6:i<cur.length:=by simpa using j6
  obtain ⟨l,ay,c'⟩:=bV (f:=bg) j6;have au:=cY (i+1);rw [iH ay,ac2,ac2,← cY] at au;have au:xs (i+1)=xs i++[.aC 1 ((fw c l).map bb) .bc]:=au;have dd:(xs (i+1)).length=(xs i).length+1:=by rw [au];simp
  have lp:=e7 i;have hw:=KS (.func 308 [] [.bA [.int .i64 c] 0]) (fun y=>y != c) (fun y=>Ui c y) l (by have:=(hm.each l (d5 ay)).1;omega);have hw:aR d0 307 [.aC 1 (l.map bb) .bc,.func 308 [] [.bA [.int .i64 c] 0]] (.aC 1 ((fw c l).map bb) .bc):=hw;unfold bg at c';refine c3 ?_;refine aa.gf ai I C C C C C C C et C C C C C C C C a1 hc pN ag (fun fi I=>?_);refine fu ?_;exact bn.mk (i+1,.own fi) I j6 j1 (by show aH _ [(_,.row _ _ (xs (i+1)).length),_] _;rw [dd];exact aH.du _) FO
 ·have kL:i=cur.length:=by
   have:cur.length≤i:=by simpa using kL
   omega
  subst kL;have he:xs cur.length=(cur.map (fw c)).map bg:=by rw [cY,ac6]
  rw [he] at I ⊢;refine bB ?_;exact bn.mk (f,cur.map (fw c),acc++[c],.own bR) I ⟨ed,by show total (cur.map (fw c))<f;omega,hm.fw c,by show (acc++[c]).length+total (cur.map (fw c))≤total all;rw [f8,ae6];omega⟩ ⟨⟨_,rfl,aS.bc⟩,⟨_,rfl,aS.of_eq (by simp [bb])⟩,trivial⟩ (by show aH _ [(_,.row _ _ (acc++[c]).length)] _;rw [f8,ae6];exact (aH.du _).there) (by show f<f+1;omega)
def jB (ps:List (List Int)) (ic:bM) (us:List Nat) (gm:bM) (mb:Nat):List af:=[.aC 1 (ps.map bg) ic,.aC 1 (us.map og) gm,.map mb]
def gI (cr:Nat) (ps:List (List Int)) (ic:bM) (us:List Nat) (gm:bM) (mb:Nat) (fj:ko):a':=
 [(.own cr,.box 327 (jB ps ic us gm mb)),(ic,.row 23 1 ps.length),(gm,.row 346 1 us.length),(.own mb,.map (pV fj))]
def Um (o:Option af) (l:List Int):Prop:=match l with
 | []=>o=none
 | x::r=>∃ v,o=some v∧aS v (.aC 1 ((x::r).map bb) .bc)
def qT (fj:ko) (os:List (List Int)):Prop:=∀ c:Nat,Um (oe fj (c:Int)) (os.getD c [])
def qU (os:List (List Int)) (l:List Int):Option (List (List Int)):=(iS os l).map fun r=>r++[l]
theorem Un (cr:Nat) (ps:List (List Int)) (ic:bM) (us:List Nat) (gm:bM) (mb:Nat) (fj:ko) (os:List (List Int)) (dJ:qT fj os) (An:∀ l∈os,l.length<1000) (c:Nat) (l:List Int) (aB:ps[c]? = some l) (my:l.length≤3) (lA:∀ p∈l,0≤p) :
  bE d0 292 [.ptr cr 0,.int .i64 (c:Int)] (gI cr ps ic us gm mb fj) (fun o K=>o = .ret (uM (qU os l))∧K=gI cr ps ic us gm mb fj):=by
 have aq:=bC;have pJ:(ps.map bg)[c]? = some (.aC 1 (l.map bb) .bc):=by rw [ad2,aB];rfl
 refine bE.bj ai Tryz.func292 C C fun s I=>?_
 unfold gI jB at I ⊢;refine hl I ?_;intro I;refine ad.h2 I 23 1 0 fun I=>?_
 refine ad.b0 [0,1,15,16] C I (σ:=Nat×List (List Int)×bM) (fun q=>[(17,.int .i64 (q.1:Int)),(6,.aC 1 (q.2.1.map bg) q.2.2)]) (fun q=>(q.2.2,.row 23 1 q.2.1.length)::gI cr ps ic us gm mb fj) (fun q=>q.1≤l.length∧q.2.1.length=q.1∧iS os l=pre (iS os (l.drop q.1)) q.2.1) (fun q=>l.length-q.1) (0,[],.nil) ⟨g7 _,rfl,(K2 _).symm⟩ ⟨⟨_,rfl,aM⟩,⟨_,rfl,aS.nil gW⟩,trivial⟩ (by simp only [gI,jB];exact aY) ?_;rintro ⟨j,acc,own⟩ ⟨aK,k3,ak⟩ I;simp only [gI,jB] at aK k3 ak I ⊢;refine b2 ?_;refine ad.cond C (fun ar=>?_) (fun aV=>?_);rotate_left
 ·have aV:l.length≤j:=by simpa using aV
  rw [ef aV] at ak;have ak:iS os l=some (acc++[]):=ak;have kN:qU os l=some (acc++[l]):=by unfold qU;rw [ak];simp
  rw [kN];have Ao:uM (some (acc++[l])) = .cu [.aC 1 (acc.map bg++[.aC 1 (l.map bb) .bc]) .bc,.bool true]:=by
   show af.cu [.aC 1 ((acc++[l]).map bg) .bc,.bool true]=_;rw [ac2];rfl
  rw [Ao];refine cG I ?_;intro I;refine aa.gf ai I C C C C C C C et C C C C C C C C a1 hc pN ag (fun bR I=>?_);refine eD ?_;exact Fin.bz (K:=gI cr ps ic us gm mb fj) I C (aS.cu (.cons aS.bc (.one aM))) (by simp only [gI,jB];exact aY) ⟨rfl,rfl⟩
 have ar:j<l.length:=by simpa using ar
 obtain ⟨p,ay,c'⟩:=bV (f:=bb) ar;rw [drop_cons ay,K3] at ak;have Uo:=lA p (d5 ay);have pZ:=dJ p.toNat;rw [Int.toNat_of_nonneg Uo] at pZ;have nD:(os.getD p.toNat []).length<1000:=by
  rw [d6];cases h:os[p.toNat]? with
  | none=>simp
  | some x=>exact An x (d5 h)
 generalize os.getD p.toNat []=ol at ak pZ nD;have hw:=Tn ol ag;unfold bb at c';unfold bg at hw;refine cG I ?_;intro I;cases ol with
 | nil=>
  have ak:iS os l=none:=ak;have kN:qU os l=none:=by unfold qU;rw [ak];rfl
  rw [kN];have pZ:oe fj p=none:=pZ;refine aa.jw ai I C C C C C C C C C C a1 C (by rw [uT,pZ]) C ?_;refine e5 ?_;exact Fin.bz (K:=gI cr ps ic us gm mb fj) I C (aS.cu (.cons (aS.nil gW) (.one aM))) (by simp only [gI,jB];exact aY) ⟨rfl,rfl⟩
 | cons x r=>
  obtain ⟨v,pZ,AG⟩:∃ v,oe fj p=some v∧aS v (.aC 1 ((x::r).map bb) .bc):=pZ;refine aa.jw ai I C C C C C C C C C C a1 C (by rw [uT,pZ]) C ?_;refine aa.n0 26 _ C AG ?_;refine cG I ?_;intro I;refine aa.jw ai I C C C C C C C C C C a1 C (by rw [uT,pZ]) C ?_;refine aa.n0 35 _ C AG ?_;refine c3 ?_;refine aa.gf ai I C C C C C C C et C C C C C C C C a1 hc pN ag (fun bR I=>?_);refine fu ?_;exact bn.mk (j+1,acc++[fw 0 (x::r)],.own bR) I ⟨ar,by rw [f8,k3];rfl,ak⟩ x8 (by show aH _ ((_,.row _ _ (acc++[fw 0 (x::r)]).length)::gI cr ps ic us gm mb fj) _;rw [f8,ae6];exact (by simp only [gI,jB];exact aY)) l3
def AH (os:List (List Int)) (l:List Int) (c:Nat):List Int:=if c=0 then [0] else match qU os l with
 | none=>[]
 | some all=>if (merged all).2 then (c:Int)::(merged all).1++[0] else []
theorem LC {os:List (List Int)} {v:List Int} (c:Nat):(os++[v]).getD c []=if c=os.length then v else os.getD c []:=by
 rw [d6,d6];by_cases e:c=os.length
 ·subst e
  rw [f9 C,ad5 (i0 _)];simp
 ·rw [d9 e]
  rcases am0 c os.length with h|h
  ·rw [ad6 h]
  ·rw [aj9 cE,aj9 h]
theorem qT.td {fj:ko} {os:List (List Int)} (h:qT fj os):qT fj (os++[[]]):=fun c=>by
 rw [LC];by_cases e:c=os.length
 ·have:=h c
  rw [f9 e];rw [e,d6,aj9 (i0 _)] at this;rw [e];exact this
 ·rw [d9 e];exact h c
theorem qT.put {fj:ko} {os:List (List Int)} (h:qT fj os) {v:af} (x:Int) (r:List Int) (av:aS v (.aC 1 ((x::r).map bb) .bc)):qT (r3 fj (os.length:Int) v) (os++[x::r]):=fun c=>by
 rw [LC,Gz];by_cases e:c=os.length
 ·subst e;rw [f9 C,f9 C];exact ⟨v,rfl,av⟩
 ·rw [d9 e,d9 ag];exact h c
theorem Up (cr:Nat) (ps:List (List Int)) (ic:bM) (us:List Nat) (gm:bM) (mb:Nat) (fj:ko) (os:List (List Int)) (dJ:qT fj os) (An:∀ l∈os,l.length<1000) (l:List Int) (aB:ps[os.length]? = some l) (my:l.length≤3) (lA:∀ p∈l,0≤p) (LD:∀ all,qU os l=some all→qN 4 21 all) (abF:os.length<100) :
  bE d0 288 [.ptr cr 0,.int .i64 (os.length:Int)] (gI cr ps ic us gm mb fj) (fun o K=>o = .ret (.cu [])∧∃ Dj,K=gI cr ps ic us gm mb Dj∧qT Dj (os++[AH os l os.length])):=by
 have aq:=bC;have yp:=Un cr ps ic us gm mb fj os dJ An os.length l aB my lA;unfold AH;refine bE.bj ai Tryz.func288 C C fun s I=>?_
 unfold gI jB at I;refine b2 ?_;refine ad.cond C (fun h=>?_) (fun h=>?_)
 ·have br:os.length=0:=by have:=of_decide_eq_true h;omega
  rw [f9 br];refine cG I ?_;intro I;refine aa.mW ai I C C (.inl C) C C C C C C a1 C (uU _ _ _) (fun I=>?_);refine ew ?_;have az:=dJ.put (v := .aC 1 [.int .i64 0] .clip) 0 [] aS.bc;rw [br] at az;exact Fin.bz (K:=gI cr ps ic us gm mb (r3 fj 0 (.aC 1 [.int .i64 0] .clip))) I C aM (by simp only [gI,jB];exact aY) ⟨rfl,_,rfl,az⟩
 have br:os.length≠0:=by have:=of_decide_eq_false h;omega
 rw [d9 br];cases Dk:qU os l with
 | none=>
  rw [Dk] at yp;unfold uM cV gI jB at yp;refine dC ?_;refine aa.b9 rfl rfl rfl rfl rfl yp I (aH.all _) ?_ (fun _ _ ⟨h,_⟩ _=>by cases h);rintro _ _ ⟨⟨⟩,rfl⟩ I;rw [d7] at I ⊢;refine ew ?_;exact Fin.bz (K:=gI cr ps ic us gm mb fj) I C aM (by simp only [gI,jB];exact aY) ⟨rfl,_,rfl,dJ.td⟩
 | some all=>
  rw [Dk] at yp;have hm:=Uk 4 21 ag all (LD all Dk);unfold uM cV gI jB at yp;unfold cV at hm;simp only;refine dC ?_;refine aa.b9 rfl rfl rfl rfl rfl yp I (aH.all _) ?_ (fun _ _ ⟨h,_⟩ _=>by cases h);rintro _ _ ⟨⟨⟩,rfl⟩ I;rw [d7] at I ⊢;cases wK:(merged all).2 with
  | false=>
   rw [wK] at hm;simp only [Bool.false_eq_true,if_false];refine bZ ?_;exact Fin.bz (K:=gI cr ps ic us gm mb fj) I C aM (by simp only [gI,jB];exact aY) ⟨rfl,_,rfl,dJ.td⟩
  | true=>
   rw [wK] at hm;simp only [if_true];have hy:=F' (total all+1) all [];have wI:=Db (LD all Dk);have Gg:(merged all).1.length≤84:=by
    have:(merged all).1.length≤0+total all:=hy;omega
   generalize (merged all).1=yq at hm Gg ⊢;unfold bg at hm;refine c3 ?_;refine ad.Aq I 3 1 1 fun I=>?_
   refine ad.qC (dR [(cr,_)]) ai mixed C (bo.run (dR.one (bp.get a1 I)) C ?_);refine bo.n3 3 ai (dR.one (bp.get a1 I)) C C C C C C C C (fun _ h=>dR.fst h) b3 ?_;refine bo.run (dR.one (bp.get a1 I)) C ?_;refine bo.qH 8 ai I rfl rfl rfl rfl rfl rfl rfl rfl rfl et rfl rfl rfl rfl (.inr rfl) rfl (fun y ay=>by obtain ⟨z,-,rfl⟩:=ad7.1 ay;rfl) C .here C (n':=yq.length+1) cE cE cE (fun tu I => .inl (dR.one (bp.get a1 I))) (fun tu I=>?_);refine bo.run (dR.one (bp.get a1 I)) C ?_;refine bo.gf 10 ai I C C C C C C C C C et C C C C C C C C .here ba j2 ag (fun uL I => .inl (dR.one (bp.get a1 I))) (fun uL I=>?_);refine bo.run (dR.one (bp.get a1 I)) C ?_;refine bo.mW 11 ai I C C C C (.inl C) C C C C C C a1 C (uU _ _ _) (fun _ => .inr C) (fun I=>?_);refine bf.done C ?_;skip;refine Fin.bz (K:=gI cr ps ic us gm mb (r3 fj (os.length:Int) (.aC 1 ([af.int .i64 (os.length:Int)]++yq.map bb++[af.int .i64 0]) uL))) I C aM (by simp only [gI,jB];exact aY) ⟨rfl,_,rfl,dJ.put _ _ ?_⟩;have:((os.length:Int)::(yq++[0])).map bb=[af.int .i64 (os.length:Int)]++yq.map bb++[af.int .i64 0]:=by simp [bb]
   rw [show yq.append [0]=yq++[0] from rfl,this];exact aS.bc
def p0 (g:List (List Int)):List (List Int):=[[],[],[]]++g
theorem LF {g:List (List Int)} {c:Nat} (h:c<3+g.length):(p0 g)[c]? = some (parents g c):=by
 unfold p0 parents;by_cases aA:c<3
 ·rw [f9 aA,ad6 (by simpa using aA)]
  rcases c with _|_|_|c
  ·rfl
  ·rfl
  ·rfl
  ·omega
 ·rw [d9 aA,ad5 cE,d6]
  simp only [i8,ae0];rw [g6 ag];rfl
theorem Uq (g:List (List Int)) (os:List (List Int)) (c:Nat) (aA:c≠0):AH os (parents g c) c=order g os c:=by
 unfold AH order qU lists;rw [d9 aA];cases iS os (parents g c)<;>rfl
theorem AI (g:List (List Int)):∀ (n k:Nat),k≤n→(fE g n).take (k+1)=fE g k
  | 0,k,h=>by
    have:k=0:=by omega
    subst this;rfl
  | n+1,k,h=>by
    by_cases e:k=n+1
    · subst e
      rw [af0 (by rw [tp];exact i0 _)]
    · rw [fE,List.take_append_of_le_length (by rw [tp];omega)]
      exact AI g n k ag
theorem Ur (g:List (List Int)) {j:Nat} (aK:j<3+g.length):(fE g (2+g.length)).take (j+1)=(fE g (2+g.length)).take j++[AH ((fE g (2+g.length)).take j) (parents g j) j]:=by
 cases j with
 | zero=>rw [AI g _ 0 ag,aj2];rfl
 | succ k=>
  rw [AI g _ (k+1) ag,AI g _ k ag,Uq g _ _ ag,fE]
theorem Us {g:List (List Int)} (aw:rZ g) {j:Nat} (aK:j<3+g.length):(∀ l∈(fE g (2+g.length)).take j,l.length<1000)∧∀ all,qU ((fE g (2+g.length)).take j) (parents g j)=some all→qN 4 21 all:=by
 have jO:=aw.len;have ah:=Ar aw (2+g.length) ag;refine ⟨fun l aB=>by have:=ah.len l (am1 aB);omega,fun all h=>?_⟩;cases j with
 | zero=>
  have:parents g 0=[]:=rfl;rw [this] at h;have:qU ((fE g (2+g.length)).take 0) []=some [[]]:=rfl;rw [this] at h;cases h;exact ⟨by simp,fun l aB=>by rw [z2] at aB;subst aB;exact ⟨by simp,fun c aA=>by cases aA⟩⟩
 | succ k=>
  rw [AI g _ k ag] at h;exact Gf aw (Ar aw k ag) (c:=k+1) h
theorem Ut (g:List (List Int)) (aw:mw g=true) (dU:List Int) (ct:dU.length<bu) (nq:∀ c∈dU,0≤c∧c<3+(g.length:Int)) :
  bE d0 275 [cV g,.aC 1 (dU.map bb) .bc] [] (fun o K=>∃ cr ic us gm mb fj,o = .ret (.cu [.ptr cr 0,.bool true])∧K=gI cr (p0 g) ic us gm mb fj∧qT fj (fE g (2+g.length))):=by
 have aq:=bC;have mj:=Am aw;have jO:=mj.len;have Uu:=KT g ag;rw [aw] at Uu;refine bE.bj ai Tryz.func275 C C fun s I=>?_
 unfold cV at *;have df:H1 .i64 (3+((g.map bg).length:Int))=3+(g.length:Int):=by rw [f6,eo ag ag]
 refine c3 ?_;refine ad.b0 [0,4,5,18,19] C I (σ:=Nat) (fun j=>[(20,.int .i64 (j:Int))]) (fun _=>[]) (fun j=>j≤dU.length) (fun j=>dU.length-j) 0 (g7 _) (ck C) aY ?_;rintro j aK I;refine ht ?_;refine ad.cond C (fun ar=>?_) (fun aV=>?_)
 ·have ar:j<dU.length:=by simpa using ar
  obtain ⟨c,ay,c'⟩:=bV (f:=bb) ar;obtain ⟨c7,dh⟩:=nq c (d5 ay);unfold bb at c';refine dC ?_;refine aa.c2 26 C (t8 ag) ?_;refine fI ?_;refine ad.cond C (fun h=>by rw [df] at h;simp at h;omega) (fun _=>?_);refine c3 ?_;exact bn.mk (j+1) I ar b' aY (by show dU.length-(j+1)<dU.length-j;omega)
 clear aK aV;refine c3 ?_;refine aa.Gq ai I 3 (3+g.length) C C C C C C C C C C C (congrArg (fun z=>some (af.int .i64 z)) (df.trans ag)) ag (by show _*24≤_;omega) ag (fun acx I=>?_);skip;refine aa.rN I C C C C (fun mb I=>?_)
 repeat (first|(refine rQ ?_)|refine aa.jL I C C C C C C (fun b I=>?_)|(refine FI I ?_;clear I;intro I))
 refine aa.qH ai I rfl rfl rfl rfl rfl rfl rfl et rfl rfl rfl rfl (.inr rfl) rfl (fun y ay=>by obtain ⟨z,-,rfl⟩:=ad7.1 ay;rfl) C a1 C (n':=3+g.length) ba cE cE (fun ic I=>?_);refine aa.n0 47 (.aC 1 ((p0 g).map bg) ic) C (aS.As (.cons aS.empty (.cons aS.empty (.cons aS.empty (cR.refl _))))) ?_;refine cG I ?_;intro I;have hQ:(p0 g).length=3+g.length:=by unfold p0;simp;omega
 refine ad.wv I b (jB (p0 g) ic [] .nil mb) a1 (.cons aM (.cons (aS.nil gW) (cR.refl _))) (fun I=>?_);refine ad.h2 I 346 1 0 fun I=>?_
 refine ad.b0 [8,53,54] C I (σ:=Nat×List Nat×bM) (fun q=>[(55,.int .i64 (q.1:Int))]) (fun q=>gI b (p0 g) ic q.2.1 q.2.2 mb []) (fun q=>q.1≤3+g.length∧q.2.1.length=q.1∧∀ m∈q.2.1,m<2^64) (fun q=>3+g.length-q.1) (0,[],.nil) ⟨g7 _,rfl,by simp⟩ (ck C) (by rw [← hQ] at I ⊢;exact (by simp only [gI,jB];exact aY)) ?_;rintro ⟨j,us,gm⟩ ⟨aK,kD,wP⟩ I;simp only [gI,jB] at aK kD wP I ⊢;refine ht ?_;refine ad.cond C (fun ar=>?_) (fun aV=>?_)
 ·have ar:j<3+g.length:=by rw [f6,hQ] at ar;simp at ar;omega
  have ay:=LF ar;have c':((p0 g).map bg)[j]? = some (.aC 1 ((parents g j).map bb) .bc):=by rw [ad2,ay];rfl
  obtain ⟨r0,o3⟩:=mj.parents j;generalize parents g j=l at ay c' r0 o3;have U:=LB 0 j dW ag;have ae:=LB (0|||2^j) 0 (ag9 dW (ag1 ag ag)) ag;unfold og at U ae
  repeat (first|(refine wy I ?_;clear I;intro I)|refine aa.d' ai I rfl rfl rfl rfl rfl rfl rfl (fun cy I=>?_)|(refine pM ?_))
  refine ad.b0 [8,9,11,53,54,55,64,65] C I (σ:=Nat×Nat) (fun q=>[(66,.int .i64 (q.1:Int))]) (fun q=>(.own cy,.box 346 [.int .u64 (q.2:Int)])::gI b (p0 g) ic us gm mb []) (fun q=>q.1≤l.length∧q.2<2^64) (fun q=>l.length-q.1) (0,0|||2^j|||2^0) ⟨g7 _,ag9 (ag9 dW (ag1 ag ag)) dW⟩ (ck C) (by simp only [gI,jB];exact aY) ?_;rintro ⟨k,m⟩ ⟨aD,hm⟩ I;simp only [gI,jB] at aD hm I ⊢;refine ht ?_;refine ad.cond C (fun cC=>?_) (fun dm=>?_)
  ·have cC:k<l.length:=by simpa using cC
   obtain ⟨p,aA,m3⟩:=bV (f:=bb) cC;have abG:=o3 p (d5 aA);obtain ⟨q,rfl⟩:∃ q:Nat,p=q:=⟨p.toNat,by omega⟩;obtain ⟨u,hu,Uv⟩:=bV (f:=og) (l:=us) (j:=q) ag;have zu:=Uh m u hm (wP u (d5 hu));unfold bb at m3;unfold og at zu Uv;refine tf I ?_;intro I;exact bn.mk (k+1,m|||u) I ⟨cC,ag9 hm (wP u (d5 hu))⟩ b' (by simp only [gI,jB];exact aY) (by show l.length-(k+1)<l.length-k;omega)
  ·refine uD ?_
   refine ad.qC (dR [(b,_),(cy,_)]) ai mixed C (bo.run (dR.two (bp.get a1 I) (bp.get a1 I)) C ?_);refine bo.n3 4 ai (dR.two (bp.get a1 I) (bp.get a1 I)) C C C C C C C C (fun _ h=>dR.fst h) b3 ?_;refine bo.n3 5 ai (dR.two (bp.get a1 I) (bp.get a1 I)) C C C C C C C C (fun _ h=>dR.snd h) b3 ?_;refine bo.run (dR.two (bp.get a1 I) (bp.get a1 I)) C ?_;refine bo.gf 7 ai I C C C C C C C C C et C C C C C C C C a1 ba j2 ag (fun uL I => .inl (dR.two (bp.get a1 I) (bp.get a1 I))) (fun Uw I=>?_);refine bo.run (dR.two (bp.get a1 I) (bp.get a1 I)) C ?_;refine bo.cS 10 ai I C C C C C C C C C C C a1 b3 (fun _ => .inr C) (fun I=>?_);refine bf.done C ?_;refine c3 ?_;have xZ:∀ x∈us++[m],x<2^64:=fun x ab=>by
    rcases ac9.1 ab with ab|ab
    ·exact wP x ab
    ·rw [z2] at ab;subst ab;exact hm
   have hy:(us++[m]).length=us.length+1:=by simp
   have Ux:(us++[m]).map og=us.map og++[.agg [.int .u64 (m:Int)]]:=by simp [og]
   exact bn.mk (j+1,us++[m],Uw) I ⟨ar,by rw [hy,kD],xZ⟩ b' (by simp only [gI,jB,hy,Ux];exact aY) (by show 3+g.length-(j+1)<3+g.length-j;omega)
 have aV:j=3+g.length:=by rw [f6,hQ] at aV;simp at aV;omega
 subst aV;refine cG I ?_;intro I;refine ad.b0 [8,94,95] C I (σ:=Nat×ko) (fun q=>[(96,.int .i64 (q.1:Int))]) (fun q=>gI b (p0 g) ic us gm mb q.2) (fun q=>q.1≤3+g.length∧qT q.2 ((fE g (2+g.length)).take q.1)) (fun q=>3+g.length-q.1) (0,[]) ⟨g7 _,fun c=>by rw [aj2];rfl⟩ (ck C) (by simp only [gI,jB];exact aY) ?_;rintro ⟨j,fj⟩ ⟨aK,dJ⟩ I;simp only [gI,jB] at aK dJ I ⊢;refine ht ?_;refine ad.cond C (fun ar=>?_) (fun aV=>?_)
 ·have ar:j<3+g.length:=by rw [f6,hQ] at ar;simp at ar;omega
  obtain ⟨sV,qt⟩:=Us mj ar;obtain ⟨r0,o3⟩:=mj.parents j;have wI:((fE g (2+g.length)).take j).length=j:=by rw [ac8,tp];omega
  have tx:=Up b (p0 g) ic us gm mb fj _ dJ sV (parents g j) (by rw [wI];exact LF ar) r0 (fun p aE=>by have:=o3 p aE;omega) qt ag;rw [wI,← Ur g ar] at tx;refine dC ?_;refine aa.b9 C C C C C tx I (by simp only [gI,jB];exact aY) ?_ (fun _ _ ⟨h,_⟩ _=>by cases h);rintro _ _ ⟨⟨⟩,Dj,rfl,Uy⟩ I;rw [d7] at I ⊢;refine c3 ?_;exact bn.mk (j+1,Dj) I ⟨ar,Uy⟩ b' (aH.du _) (by show 3+g.length-(j+1)<3+g.length-j;omega)
 have aV:j=3+g.length:=by rw [f6,hQ] at aV;simp at aV;omega
 subst aV;rw [af0 (by rw [tp];omega)] at dJ;refine c3 ?_;exact Fin.bz I C aM (aH.du _) ⟨b,ic,us,gm,mb,fj,rfl,rfl,dJ⟩
theorem Uz (g:List (List Int)) (aw:g.length<bu):aR d0 254 [cV g] (.int .i64 (if mw g then 0 else 2)):=by
 have aq:=bC;refine aR.bj ai Tryz.func254 C C fun s I=>?_
 have U:=KT g aw;unfold cV at *
 repeat' (first|(with_reducible first|apply ad.seq|apply bY|apply fm|apply ad.ret|apply ad.skip)|refine cT C ?_|refine ad.cB ?_|refine aa.nil ?_|refine cx C ?_|refine aa.dQ C C C C C ch ?_|refine ad.cond C (fun h=>?_) (fun h=>?_))
 all_goals exact Fin.cp I C (aS.of_eq qS)
def LG (l:List Int):af:=if l.isEmpty then .cu [.aC 0 [] .nil,.int .i64 7] else .cu [bg l,.int .i64 0]
theorem UA (g:List (List Int)) (aw:mw g=true) (c:Nat) (aA:c<3+g.length):aR d0 255 [cV g,.int .i64 (c:Int)] (LG ((fE g (2+g.length)).getD c [])):=by
 have aq:=bC;refine aR.bj ai Tryz.func255 C C fun s I=>?_
 have U:=Ut g aw [(c:Int)] cE (by intro x ab;rw [z2] at ab;subst ab;omega);have mj:=Am aw;have jO:=mj.len;have ah:=Ar mj (2+g.length) ag;unfold cV at *;have U:=bE.args (show cR [.aC 1 (g.map bg) .bc,.aC 1 [.int .i64 (c:Int)] .clip] [.aC 1 (g.map bg) .bc,.aC 1 ([(c:Int)].map bb) .bc] from .cons aM (.one aS.bc)) U;refine dL ?_;refine aa.b9 rfl rfl rfl rfl rfl U I .nil ?_ (fun _ _ ⟨_,_,_,_,_,_,h,_⟩ _=>by cases h);rintro _ _ ⟨cr,ic,us,gm,mb,fj,⟨⟩,rfl,dJ⟩ I;rw [d7] at I ⊢;have AJ:=dJ c;have gh:((fE g (2+g.length)).getD c []).length<bu:=by
  rw [d6];cases h:(fE g (2+g.length))[c]? with
  | none=>simp;omega
  | some x=>have:=ah.len x (d5 h);show x.length<bu;omega
 generalize (fE g (2+g.length)).getD c []=l at AJ gh;unfold gI jB at I ⊢;cases l with
 | nil=>
  have AJ:oe fj (c:Int)=none:=AJ;refine hl I ?_;intro I;refine aa.jw ai I C C C C C C C C C C a1 C (by rw [uT,AJ]) C ?_;refine ew ?_;exact bm I
 | cons x r=>
  obtain ⟨v,pZ,AG⟩:∃ v,oe fj (c:Int)=some v∧aS v (.aC 1 ((x::r).map bb) .bc):=AJ;have ct:=AE (x::r) .bc gh;unfold bg at ct;refine hl I ?_;intro I;refine aa.jw ai I C C C C C C C C C C a1 C (by rw [uT,pZ]) C ?_;refine aa.n0 22 _ C AG ?_;refine cG I ?_;intro I;refine aa.jw ai I C C C C C C C C C C a1 C (by rw [uT,pZ]) C ?_;refine aa.n0 30 _ C AG ?_;refine c3 ?_;exact bm I
theorem AK {w:bx} {up:List Nat} {c m:Nat} (h:up[c]? = some m):(pY w up)[2+c]? = some (.int .u64 (m:Int)):=by
 unfold pY eO;rw [ad5 ba];simp [h]
theorem LH (w:bx) (up:List Nat) (c bt m o:Nat) (aA:c<63) (hm:up[c]? = some m) (hy:m<2^64) (au:w.owner[bt]? = some (o:Int)) (ah:o<64):aR d0 209 [e6 w up,.int .i64 (c:Int),.int .i64 (bt:Int)] (.bool (m.testBit o)):=by
 have aq:=bC;refine aR.bj ai Tryz.func209 C C fun s I=>?_
 have U:=yo m o hy ah;have ae:(w.owner.map bb)[bt]? = some (.int .i64 (o:Int)):=by simp [au,bb]
 have an:=AK (w:=w) hm;unfold e6;unfold pY eO bg at an ⊢;refine bZ ?_;refine aJ.l0 ai c C C C C C C C C C C aA ?_;refine aJ.Aw ai C C C C C C C (by simpa using an) ?_;refine c3 ?_;exact bm I
theorem GD (c:Nat) (aA:c<64):aR d0 197 [.int .u64 1,.int .i64 (c:Int)] (.int .u64 ((1|||2^c:Nat):Int)):=AF 1 c dW aA
def nG (w:bx) (u:List Nat):List af:=pY w (pad u)
theorem LI {w:bx} {u:List Nat} (h:u.length<63) (v:Nat):eU (2+u.length*1) [.int .u64 (v:Int)] (nG w u)=nG w (u++[v]):=by
 rw [pT];unfold nG pY;rw [aj1 _ _ (by simp [eO]),← Tf h v,List.map_set];congr 2;simp [eO]
theorem LJ {w:bx} {u:List Nat} (h:u.length≤63):(nG w u).length=65:=by
 unfold nG pY;rw [f8,f6,Te h];rfl
theorem UB {w:bx} {u:List Nat} {c m:Nat} (h:u[c]? = some m):(nG w u)[2+c*1]? = some (.int .u64 (m:Int)):=by
 rw [ag7];exact AK (yb h)
theorem UC (j:Nat) (aK:j<3):[1,3,5].take (j+1)=[1,3,5].take j++[1|||2^j]:=by
 rcases j with _|_|_|j
 ·rfl
 ·rfl
 ·rfl
 ·omega
theorem UD (w:bx) (hw:fT w):aR d0 165 [eF w] (.cu [e6 w (pad (ey w.ps)),.bool true]):=by
 have aq:=bC;have o6:=hw.iV;have gh:=hw.bl;refine aR.bj ai Tryz.func165 C C fun s I=>?_
 unfold eF eO cV bg;refine dL ?_;refine aa.c2 15 C cE ?_;refine fI ?_;refine ad.cond C (fun h=>?_) (fun _=>?_)
 ·simp at h;omega
 refine ad.skip ?_
 repeat (first|(refine zY ?_)|refine aa.jL I C C C C C C (fun b I=>?_)|(refine zZ ?_))
 refine ad.b0 [1,4] C I (σ:=Nat) (fun j=>[(24,.int .i64 (j:Int))]) (fun j=>[(.own b,.box 234 (nG w ([1,3,5].take j)))]) (fun j=>j≤3) (fun j=>3-j) 0 (g7 _) (ck C) aY ?_;rintro j aK I;refine b2 ?_;refine ad.cond C (fun ar=>?_) (fun aV=>?_)
 ·have ar:j<3:=by have:=of_decide_eq_true ar;omega
  have U:=GD j ag;have e:eU (2+j*1) [.int .u64 ((1|||2^j:Nat):Int)] (nG w ([1,3,5].take j))=nG w ([1,3,5].take (j+1)):=by
   have aB:([1,3,5].take j).length=j:=by simp;omega
   have:=LI (w:=w) (u:=[1,3,5].take j) ag (1|||2^j);rw [aB] at this;rw [this,UC j ar]
  have hlen:(nG w ([1,3,5].take j)).length=65:=LJ cE;refine bZ ?_;refine aJ.arr ai j C C C C C C C C C C ag ?_;refine aJ.j8 ai I _ C C C C C C C C C C a1 (by rw [hlen];show 2+j*1+1≤65;omega) e (fun I=>?_);refine fR ?_;exact bn.mk (j+1) I ar b' aY (by show 3-(j+1)<3-j;omega)
 have aV:j=3:=by have:=of_decide_eq_false aV;omega
 subst aV;refine bB ?_;refine ad.b0 [1,4,36,37] C I (σ:=Nat) (fun j=>[(38,.int .i64 (j:Int))]) (fun j=>[(.own b,.box 234 (nG w (ey (w.ps.take j))))]) (fun j=>j≤w.ps.length) (fun j=>w.ps.length-j) 0 (g7 _) (ck C) aY ?_;rintro j aK I;refine b2 ?_;refine ad.cond C (fun ar=>?_) (fun aV=>?_);rotate_left
 ·have aV:j=w.ps.length:=by simp at aV;omega
  subst aV;rw [ac6] at I ⊢;have kp:w.owner.all (fun c=>decide (c≥3)&&decide (c<3+(w.ps.length:Int)))=true:=by
   rw [af3];intro o ah;have:=hw.own o ah;simp;omega
  have p1:=Lw 199 [e6 w (pad (ey w.ps))] [] _ w.owner ag (fun x _=>Ue w (pad (ey w.ps)) x o6);rw [kp] at p1;refine ad.mo I 4 b C a1 (fun I=>?_);unfold e6 at p1 ⊢;refine c3 ?_;exact bm I
 have ar:j<w.ps.length:=by simpa using ar
 obtain ⟨l,ay,c'⟩:=bV (f:=bg) ar;have jO:=C5 hw.n9 ay;have U:=GD (3+j) ag;have kD:(ey (w.ps.take j)).length=3+j:=by rw [tq,ac8];omega
 have GF:∀ m∈ey (w.ps.take j),m<2^64:=ya t';have iG:H1 .i64 (3+(j:Int))=((3+j:Nat):Int):=by rw [eo ag ag];omega
 have my:l.length<100:=by have:=hw.short l (d5 ay);omega
 generalize p2:ey (w.ps.take j)=acF at I kD GF;unfold bg at c';have U:aR d0 197 [.int .u64 1,.int .i64 (H1 .i64 (3+(j:Int)))] (.int .u64 ((1|||2^(3+j):Nat):Int)):=by rw [iG];exact U
 refine bZ ?_;refine ad.b0 [1,4,36,37,38,6,7,46,47] C I (σ:=Nat) (fun k=>[(48,.int .i64 (k:Int)),(8,.int .u64 (((l.take k).foldl (fun s p=>s|||acF.getD p.toNat 0) (1|||2^(3+j)):Nat):Int))]) (fun k=>[(.own b,.box 234 (nG w acF))]) (fun k=>k≤l.length) (fun k=>l.length-k) 0 (g7 _) (ck C) aY ?_;rintro k aD I;refine b2 ?_;refine ad.cond C (fun cC=>?_) (fun dm=>?_);rotate_left
 ·have dm:k=l.length:=by simp at dm;omega
  subst dm;rw [ac6] at ⊢;have e:eU (2+(3+j)*1) [.int .u64 ((rV acF l:Nat):Int)] (nG w acF)=nG w (ey (w.ps.take (j+1))):=by
   rw [iH ay,KC,p2,← kD];exact LI ag _
  have hlen:(nG w acF).length=65:=LJ ag;unfold rV at e;rw [kD] at e;refine bB ?_;refine aa.arr ai (3+j) C C C C C C C C C iG ag ?_;refine aa.j8 ai I _ C C C C C C C C C a1 (by rw [hlen];show 2+(3+j)*1+1≤65;omega) e (fun I=>?_);refine fu ?_;exact bn.mk (j+1) I ar b' aY (by show w.ps.length-(j+1)<w.ps.length-j;omega)
 have cC:k<l.length:=by simpa using cC
 obtain ⟨p,aA,m3⟩:=bV (f:=bb) cC;obtain ⟨g1,g2,g3⟩:=C6 jO aA;obtain ⟨q,rfl⟩:∃ q:Nat,p=q:=⟨p.toNat,by omega⟩;have ib:=yd (l.take k) q (by have:=ai6 k l;omega);have uV:(l.take k).contains (q:Int)=false:=by simpa using g3
 rw [uV] at ib;unfold bg at ib;rw [List.map_take] at ib;unfold bb at m3 ib;obtain ⟨m,hm⟩:∃ m,acF[q]? = some m:=⟨acF[q]' ag,g6 _⟩;refine dC ?_;refine aa.c2 55 C (t8 ag) ?_;refine dS ?_;refine aa.c2 61 C (by rw [iG];exact t8 ag) ?_;refine dS ?_;refine aa.slice ai 0 k C C C C C C C C (.inr C) (.inl ⟨rfl,rfl⟩) (.inr ⟨_,_,rfl,rfl⟩) (.inl ⟨rfl,rfl⟩) (g7 _) (by simpa using aD) ?_;rw [aj'];refine c3 ?_;refine aa.arr ai q C C C C C C C C C C ag ?_;refine aa.j7 ai I C C C C C C a1 C (UB hm) ?_;refine aa.bits (((l.take k).foldl (fun s p=>s|||acF.getD p.toNat 0) (1|||2^(3+j))|||m:Nat):Int) C C C C C C (wC (F1 GF _ _ (F0 dW (ag1 ag ag))) (GF m (d5 hm))) ?_;refine fu ?_;refine bn.mk (k+1) I cC (by repeat (first|exact trivial|refine ⟨⟨_,rfl,aM⟩,?_⟩|refine ⟨⟨_,rfl,aS.of_eq (by (first|rw [jv ag]|(rw [iH aA,am6];simp [hm])))⟩,?_⟩)) aY (by show l.length-(k+1)<l.length-k;omega)
theorem UE (fv:af) (K aO:a') (q:Bool) (x:aj) (h:dt d0 fv [x.bJ] K (fun o K=>o = .ret (.bool q)∧K=aO)):dt d0 (.func 234 [] [.bA [fv] 0]) [x.bJ] K (fun o K=>o = .ret (.bool (!q))∧K=aO):=by
 refine dt.fp (first:=[]) (cap:=[.bA [fv] 0]) ?_;refine bE.bj ai Tryz.func234 C C fun s I=>?_
 rw [aj.bW] at h ⊢;refine dL ?_;refine aa.gM rfl rfl rfl rfl rfl rfl h I (aH.all _) ?_ (fun _ _ ⟨h,_⟩ _=>by cases h);rintro _ _ ⟨⟨⟩,rfl⟩ I;rw [d7] at I ⊢;refine eD ?_;exact Fin.bz I C aM (aH.all _) ⟨rfl,rfl⟩
theorem UF (f:FuncId) (iu hr:List af) (xs:List aj) (T:Nat→a') (cq:Nat→Bool) (aB:xs.length<bu) (h:∀ j x,xs[j]? = some x→(∀ i,i<j→cq i=true)→dt d0 (.func f iu hr) [x.bJ] (T j) (fun o K=>o = .ret (.bool (cq j))∧K=T (j+1))) :
  bE d0 200 [.aC 6 (xs.map aj.bJ) .bc,.func f iu hr] (T 0)
   (fun o K=>(o = .ret (.bool true)∧K=T xs.length∧∀ i,i<xs.length→cq i=true)∨∃ j,j<xs.length∧cq j=false∧(∀ i,i<j→cq i=true)∧o = .ret (.bool false)∧K=T (j+1)):=by
 refine bE.bj ai Tryz.func200 C C fun s I=>?_
 have aA:=Gi (.func 234 [] [.bA [.func f iu hr] 0]) xs T (fun j => !cq j) aB (fun j x ab aQ=>UE (.func f iu hr) (T j) (T (j+1)) (cq j) x (h j x ab (fun i eN=>by simpa using aQ i eN)));refine dL ?_;refine aa.b9 rfl rfl rfl rfl rfl aA I (aH.all _) ?_ (fun _ _ h _=>by rcases h with ⟨h,_⟩|⟨_,_,_,_,h,_⟩<;>cases h);rintro _ _ (⟨⟨⟩,rfl,U⟩|⟨j,U,ae,an,⟨⟩,rfl⟩) I
 all_goals rw [d7] at I ⊢
 ·refine eD ?_
  exact Fin.bz I C aM (aH.all _) (.inl ⟨rfl,rfl,fun i aQ=>by simpa using U i aQ⟩)
 ·refine eD ?_
  exact Fin.bz I C aM (aH.all _) (.inr ⟨j,U,by simpa using ae,fun i aQ=>by simpa using an i aQ,rfl,rfl⟩)
def l4 (k6:Nat) (k:Int):a':=[(.own k6,.box 3 [.int .i64 k])]
theorem UG (w:bx) (d:Nat) (k:Int) (f:aj):e1 w d k f=if decide (k-1<0)||decide (d=0) then (false,k-1) else if h3 w f then gX w (d-1) (k-1) f.kids else (false,k-1):=by
 cases f;rw [e1];rfl
def k7 (w:bx) (d:Nat) (k:Int) (ks:List aj):Nat→Int
  | 0=>k
  | j+1=>match ks[j]? with
    | some x=>(e1 w d (k7 w d k ks j) x).2
    | none=>k7 w d k ks j
theorem wQ (w:bx) (d:Nat) (k:Int) (x:aj) (r:List aj):∀ j,k7 w d k (x::r) (j+1)=k7 w d (e1 w d k x).2 r j
  | 0=>by simp [k7]
  | j+1=>by
    rw [k7,wQ w d k x r j,List.getElem?_cons_succ];rfl
theorem LK (w:bx) (d:Nat):∀ (ks:List aj) (k:Int),
    (∀ j x,ks[j]? = some x→(e1 w d (k7 w d k ks j) x).1=true)→gX w d k ks=(true,k7 w d k ks ks.length)
  | [],_,_=>by rw [gX];rfl
  | x::r,k,h=>by
    have br:(e1 w d k x).1=true:=h 0 x C;rw [gX,f9 br,LK w d r _ (fun j y aK=>by rw [← wQ];exact h (j+1) y (by simpa using aK)),i8,wQ]
theorem LL (w:bx) (d:Nat):∀ (ks:List aj) (k:Int) (j:Nat) (x:aj),ks[j]? = some x→(∀ (i:Nat) y,i<j→ks[i]? = some y→(e1 w d (k7 w d k ks i) y).1=true)→(e1 w d (k7 w d k ks j) x).1=false →
    gX w d k ks=(false,k7 w d k ks (j+1))
  | [],_,_,_,h,_,_=>by simp at h
  | y::r,k,0,x,h,_,ab=>by
    obtain rfl:y=x:=by simpa using h
    have bL:(e1 w d k y).1=false:=ab;rw [gX,d9 (by rw [bL];simp),wQ];rfl
  | y::r,k,j+1,x,h,aQ,ab=>by
    have br:(e1 w d k y).1=true:=aQ 0 y (Nat.succ_pos _) C;rw [gX,f9 br,wQ];rw [wQ] at ab;exact LL w d r _ j x fZ (fun i z eN bO=>by rw [← wQ];exact aQ (i+1) z ag (by simpa using bO)) ab
mutual
theorem LM:∀ (x:aj) (w:bx) (d:Nat) (k:Int),(e1 w d k x).1=true→0≤(e1 w d k x).2∧(e1 w d k x).2≤k
  | .mk o a p c n ks,w,d,k,h=>by
    rw [e1] at h ⊢;split at h
    · cases h
    · rename_i aA
      rw [d9 aA];simp only [ag',g8,not_or] at aA;split at h
      · rename_i az
        rw [f9 az];have:=LN ks w (d-1) (k-1) h ag;omega
      · cases h
theorem LN:∀ (ks:List aj) (w:bx) (d:Nat) (k:Int),(gX w d k ks).1=true→0≤k→0≤(gX w d k ks).2∧(gX w d k ks).2≤k
  | [],w,d,k,_,br=>by rw [gX];exact ⟨br,ai0 _⟩
  | x::r,w,d,k,h,br=>by
    rw [gX] at h ⊢;split at h
    · rename_i ab
      rw [f9 ab];have U:=LM x w d k ab;have ae:=LN r w d _ h U.1;omega
    · cases h
end
theorem LO {w:bx} {d:Nat} {ks:List aj} {k:Int} (br:0≤k):∀ (j:Nat),(∀ (i:Nat) y,i<j→ks[i]? = some y→(e1 w d (k7 w d k ks i) y).1=true)→0≤k7 w d k ks j∧k7 w d k ks j≤k
  | 0,_=>⟨br,ai0 _⟩
  | j+1,h=>by
    have U:=LO br j fun i y aQ ay=>h i y ag ay
    rw [k7];cases ab:ks[j]? with
    | none=>exact U
    | some x=>
      have ae:=LM x w d _ (h j x (aj5 _) ab);simp only;omega
theorem UH (w:bx) (up:List Nat) (k6:Nat) (y:aj) (d:Nat) (k:Int) (ax:d≤12) (ni:0<d)
  (h:bE d0 202 [e6 w up,y.bJ,.ptr k6 0,.int .i64 ((d-1:Nat):Int)] (l4 k6 k) (fun o K=>o = .ret (.bool (e1 w (d-1) k y).1)∧K=l4 k6 (e1 w (d-1) k y).2)) :
  dt d0 (.func 238 [] [.bA [e6 w up] 0,.bA [.ptr k6 0] 0,.bA [.int .i64 (d:Int)] 0]) [y.bJ] (l4 k6 k) (fun o K=>o = .ret (.bool (e1 w (d-1) k y).1)∧K=l4 k6 (e1 w (d-1) k y).2):=by
 refine dt.fp (first:=[]) (cap:=[.bA [e6 w up] 0,.bA [.ptr k6 0] 0,.bA [.int .i64 (d:Int)] 0]) ?_;refine bE.bj ai Tryz.func238 C C fun s I=>?_
 have hw:H1 .i64 ((d:Int)-1)=((d-1:Nat):Int):=by rw [eo ag ag];omega
 rw [aj.bW] at h ⊢;rw [← hw] at h;unfold e6 at h ⊢;refine dL ?_;refine aa.b9 rfl rfl rfl rfl rfl h I (aH.all _) ?_ (fun _ _ ⟨h,_⟩ _=>by cases h);rintro _ _ ⟨⟨⟩,rfl⟩ I;rw [d7] at I ⊢;refine eD ?_;exact Fin.bz I C aM (aH.all _) ⟨rfl,rfl⟩
theorem UI (w:bx) (up:List Nat) (hw:w.ps.length≤60) (k6:Nat):∀ (n:Nat) (f:aj) (d:Nat) (k:Int),f.size≤n→n<bu→d≤12→0≤k→k≤bu →
    bE d0 202 [e6 w up,f.bJ,.ptr k6 0,.int .i64 (d:Int)] (l4 k6 k) (fun o K=>o = .ret (.bool (e1 w d k f).1)∧K=l4 k6 (e1 w d k f).2):=by
  have aq:=bC;intro n
  induction n with
  | zero=>intro x d k h;have:=x.size_eq;omega
  | succ n a6=>
    intro f d k az iP ax kv ik;have p3:H1 .i64 (k-1)=k-1:=eo ag ag;refine bE.bj ai Tryz.func202 C C fun s I=>?_
    have iv:=f.size_eq;have aA:=UG w d k f;have U:=T9 f.op;have ae:=GC f;have an:=Uf w up f.path ag;have bd:=Ub w up f.cls hw;rw [aj.bW] at ae ⊢;unfold e6 bg at an;unfold e6 at bd ⊢;unfold l4 at I ⊢;refine hl I ?_;intro I;rw [p3] at I ⊢
    repeat' (first|(with_reducible first|apply ad.seq|apply bY|apply fm|apply fg|apply gG|apply ad.ret|apply ad.skip|apply ad.block)|refine cT C ?_|refine ad.cB ?_|refine aa.nil ?_|refine ad.e8 C ?_|refine cx C ?_|refine aa.skip C C C ?_|refine aJ.nil ?_|refine aJ.step C ?_|refine aa.dQ C C C C C ch ?_|refine aJ.dQ C C C C C ch ?_|(fail_if_success refine aa.same true C ?_);(fail_if_success refine aa.same false C ?_);refine aa.gA C C (fun h=>?_) (fun h=>?_)|(fail_if_success refine aJ.same true C ?_);(fail_if_success refine aJ.same false C ?_);refine aJ.gA C C (fun h=>?_) (fun h=>?_)|refine ad.cond C (fun h=>?_) (fun h=>?_))
    all_goals first
      | (have key:e1 w d k f=(false,k-1):=by
          clear a6 I U ae an bd az iv p3
          rw [aA]
          simp only [h3,km,aj.cU] at *
          grind
         exact Fin.bz (K:=l4 k6 (k-1)) I C aM (by simp only [l4];exact aY) ⟨by rw [key],by rw [key];rfl⟩)
      | (have Dl:f.kids=[]:=by
          clear a6 I U ae an bd az iv p3 aA
          refine af5 ?_
          simp only [h3,km,aj.cU,pQ,f6] at *
          grind
         have key:e1 w d k f=(h3 w f,k-1):=by
          clear a6 I U ae an bd az iv p3
          rw [aA,Dl,gX]
          grind
         refine Fin.bz (K:=l4 k6 (k-1)) I C (aS.of_eq (congrArg af.bool ?_)) (by simp only [l4];exact aY) ⟨by rw [key],by rw [key];rfl⟩
         clear a6 I U ae an bd az iv p3 aA key
         simp only [h3,km,aj.cU,pQ,f6] at *
         grind)
      | skip
    have UJ:h3 w f=true:=by
      clear a6 I U ae an bd az iv p3 aA;simp only [h3,km,aj.cU,f6] at *;simp at *;grind
    have ni:0<d:=by
      rcases Nat.eq_zero_or_pos d with rfl|h
      · simp_all
      · exact h
    have AL:¬ k-1<0:=by
      clear a6 I U ae an bd;grind
    have key:e1 w d k f=gX w (d-1) (k-1) f.kids:=by
      rw [aA,d9 cE,f9 UJ]
    have hlen:=aj.pP f.kids
    have Dl:=UF 238 [] [.bA [e6 w up] 0,.bA [.ptr k6 0] 0,.bA [.int .i64 (d:Int)] 0] f.kids (fun j=>l4 k6 (k7 w (d-1) (k-1) f.kids j)) (fun j=>match f.kids[j]? with|some x=>(e1 w (d-1) (k7 w (d-1) (k-1) f.kids j) x).1|none=>true) ag (fun j x ab aQ=>by
      have p4:=LO (w:=w) (d:=d-1) (ks:=f.kids) (k:=k-1) ag j (fun i y eN ay=>by have:=aQ i eN;simp only [ay] at this;simpa using this)
      have hm:=aj.hx (d5 ab)
      have:=UH w up k6 x d (k7 w (d-1) (k-1) f.kids j) ax ni (a6 x (d-1) _ ag ag ag p4.1 ag)
      simp only [k7,ab]
      exact this)
    unfold e6 at Dl;skip;refine aa.b9 C C C C C Dl I (by simp only [l4,k7];exact aY) ?_ (fun _ _ h _=>by rcases h with ⟨h,_⟩|⟨_,_,_,_,h,_⟩<;>cases h);rintro _ _ (⟨⟨⟩,rfl,g1⟩|⟨j,g1,g2,g3,⟨⟩,rfl⟩) I
    · have:=LK w (d-1) f.kids (k-1) (fun j x ab=>by have:=g1 j (ac3.1 ab).1;simp only [ab] at this;simpa using this)
      rw [key,this];refine eD ?_;exact Fin.bz (K:=l4 k6 _) I C aM (by simp only [l4,ab',d8];exact aY) ⟨rfl,rfl⟩
    · obtain ⟨x,ab,-⟩:=bV (f:=aj.bJ) g1
      simp only [ab] at g2;have:=LL w (d-1) f.kids (k-1) j x ab (fun i y eN ay=>by have:=g3 i eN;simp only [ay] at this;simpa using this) (by simpa using g2);rw [key,this];refine eD ?_;exact Fin.bz (K:=l4 k6 _) I C aM (by simp only [l4,ab',d8];exact aY) ⟨rfl,rfl⟩
abbrev AM (w:bx):List Nat:=pad (ey w.ps)
abbrev gn (w:bx):af:=e6 w (AM w)
theorem UK (w:bx) (hw:w.ps.length≤60) (f:aj) (aZ:f.size<bu):eE d0 (.func 201 [] [.bA [gn w] 0]) [f.bJ] (.bool (h' w f)):=by
 have aq:=bC;refine eE.fp (first:=[]) (cap:=[.bA [gn w] 0]) ?_;refine aR.bj ai Tryz.func201 C C fun s I=>?_
 rw [aj.bW];unfold gn e6
 repeat (first|(refine Sx I ?_;clear I;intro I)|refine aa.d' ai I rfl rfl rfl rfl rfl rfl rfl (fun cy I=>?_))
 have az:=UI w (AM w) hw cy f.size f 12 24 (i0 _) aZ ag ag ag;rw [aj.bW] at az;unfold e6 at az;refine aa.b9 C C C C C az I (by simp only [l4];exact aY) ?_ (fun _ _ ⟨h,_⟩ _=>by cases h);rintro _ _ ⟨⟨⟩,rfl⟩ I;rw [d7] at I ⊢;refine aa.mq I [] aY fun I=>?_
 refine eD ?_;exact bm I
theorem UL (w:bx) (hw:w.ps.length≤60) (l:List aj) (aB:l.length<bu) (aZ:∀ f∈l,f.size<bu):aR d0 166 [gn w,.aC 6 (l.map aj.bJ) .bc] (.bool (l.all (h' w))):=by
 have aq:=bC;refine aR.bj ai Tryz.func166 C C fun s I=>?_
 have U:=T1 201 [] [.bA [gn w] 0] (h' w) l aB (fun x ab=>UK w hw x (aZ x ab));unfold gn e6 at *;refine bZ ?_;exact bm I
theorem GG (w:bx) (hw:fT w) (l:List aj) (aB:l.length<bu) (aZ:∀ f∈l,f.size<bu):aR d0 122 [eF w,.aC 6 (l.map aj.bJ) .bc] (.cu [gn w,.bool (l.all (h' w))]):=by
 have aq:=bC;refine aR.bj ai Tryz.func122 C C fun s I=>?_
 have U:=UD w hw;have ae:=UL w hw.iV l aB aZ;unfold eF eO cV bg at *;unfold gn e6 at *;refine bZ ?_;exact bm I
theorem UM (w:bx) (hw:fT w) (f:aj) (aZ:f.size<bu):aR d0 229 [eF w,f.bJ] (.int .i64 (if h' w f then 0 else 2)):=by
 have aq:=bC;refine aR.bj ai Tryz.func229 C C fun s I=>?_
 have U:=GG w hw [f] cE (by intro g aw;rw [z2] at aw;subst aw;exact aZ);have ae:=Ug (h' w f);rw [ac4,ae5,aj.bW] at U;rw [ah1,ak0,ao8] at U;rw [aj.bW];unfold eF eO cV bg at *;refine bZ ?_;exact bm I
theorem LP (v:Int×Int) (n:Int):aR d0 170 [eJ v,.int .i64 n] (.bool (fx n v)):=by
 have aq:=bC;refine aR.bj ai Tryz.func170 C C fun s I=>?_
 unfold eJ
 repeat' (first|(with_reducible first|apply ad.seq|apply bY|apply fm|apply fg|apply gG|apply ad.ret|apply ad.skip|apply ad.block)|refine cT C ?_|refine ad.cB ?_|refine aa.nil ?_|refine cx C ?_|refine aa.skip C C C ?_|(fail_if_success refine aa.same true C ?_);(fail_if_success refine aa.same false C ?_);refine aa.gA C C (fun h=>?_) (fun h=>?_)|refine ad.cond C (fun h=>?_) (fun h=>?_))
 all_goals (refine Fin.cp I C (aS.of_eq (congrArg af.bool ?_));clear I;simp only [fx,km];grind)
theorem LQ (w:bx) (m:Nat) {j:Nat} (o:Int) (h:w.owner[j]? = some o):((ae7 (j+1)).filter fun s=>m.testBit (w.owner.getD s 0).toNat).map (fun (s:Nat)=>(s:Int))=(((ae7 j).filter fun s=>m.testBit (w.owner.getD s 0).toNat).map fun (s:Nat)=>(s:Int))++(if m.testBit o.toNat then [(j:Int)] else []):=by
 rw [List.range_succ,List.filter_append,ac2];congr 1;have:w.owner.getD j 0=o:=by rw [d6,h];rfl
 rw [List.filter_cons,List.filter_nil,this];cases hm:m.testBit o.toNat<;>rfl
theorem LR (w:bx) (hw:fT w) (c:Nat) (aA:c<3+w.ps.length):aR d0 205 [gn w,.int .i64 (c:Int)] (bg (kH w ((ey w.ps).getD c 0))):=by
 have aq:=bC;refine aR.bj ai Tryz.func205 C C fun s I=>?_
 have o6:=hw.iV;have gh:=hw.bl;have kD:=tq w.ps;obtain ⟨m,hm⟩:∃ m,(ey w.ps)[c]? = some m:=⟨_,g6 ag⟩;have m5:(ey w.ps).getD c 0=m:=by rw [d6,hm];rfl
 have hy:=ya o6 m (d5 hm);rw [m5];obtain ⟨xs,cY⟩:∃ xs:Nat→List af,∀ j,xs j=(((ae7 j).filter fun s=>m.testBit (w.owner.getD s 0).toNat).map fun (s:Nat)=>(s:Int)).map bb:=⟨_,fun _=>rfl⟩;have br:xs 0=[]:=by rw [cY];rfl
 have e7:∀ j,(xs j).length≤j:=fun j=>by
  rw [cY,f6,f6];exact ai' (ag6 _ _) ba
 unfold gn e6;have uW:=fun s o (au:w.owner[s]? = some ((o:Nat):Int)) ah=>LH w (AM w) c s m o ag (yb hm) hy au ah
 unfold e6 at uW;unfold pY eO bg at *;refine gg ?_;refine ad.h2 I 3 1 0 fun I=>?_
 refine ad.b0 [0,1,12] C I (σ:=Nat×bM) (fun q=>[(13,.int .i64 (q.1:Int)),(5,.aC 1 (xs q.1) q.2)]) (fun q=>[(q.2,.row 3 1 (xs q.1).length)]) (fun q=>q.1≤w.owner.length) (fun q=>w.owner.length-q.1) (0,.nil) (g7 _) ⟨⟨_,rfl,aM⟩,⟨_,rfl,by rw [br];exact aS.nil gW⟩,trivial⟩ uR ?_;rintro ⟨j,own⟩ aK I;simp only at aK I ⊢;refine b2 ?_;refine ad.cond C (fun ar=>?_) (fun aV=>?_);rotate_left;have aV:j=w.owner.length:=by
  have:w.owner.length≤j:=by simpa using aV
  omega
 ·subst aV
  have he:xs w.owner.length=(kH w m).map bb:=by rw [cY];rfl
  rw [he];refine dB ?_;exact Fin.cp I C aS.bc
 have ar:j<w.owner.length:=by simpa using ar
 obtain ⟨o,ah⟩:∃ o,w.owner[j]? = some o:=⟨_,g6 ar⟩;obtain ⟨g1,g2⟩:=hw.own o (d5 ah);obtain ⟨q,rfl⟩:∃ q:Nat,o=q:=⟨o.toNat,by omega⟩;have au:=cY (j+1);rw [LQ w m _ ah,ac2,← cY] at au;have lp:=e7 j;have U:=uW j q ah ag;refine bZ ?_;refine ad.cond C (fun av=>?_) (fun av=>?_)
 ·have au:xs (j+1)=xs j++[.int .i64 (j:Int)]:=by rw [au];simp [av,bb]
  have dd:(xs (j+1)).length=(xs j).length+1:=by rw [au];simp
  refine jM ?_;refine aa.gf ai I C C C C C C C et C C C C C C C C a1 hc j2 ag (fun bR I=>?_);refine fu ?_;refine bn.mk (j+1,.own bR) I ar j1 tw ym
 ·have au:xs (j+1)=xs j:=by rw [au];simp [av]
  refine fR ?_;refine bn.mk (j+1,own) I ar j1 yk ym
abbrev gj (aU:List dD):af := .aC 2 (aU.map ho) .bc
abbrev jC (l:List (Int×Int)):af := .aC 2 (l.map eJ) .bc
theorem UN (aU:List dD) (v:Int×Int):eE d0 (.func 206 [] [.bA [gj aU] 0]) [eJ v] (.bool (fx aU.length v)):=by
 have aq:=bC;refine eE.fp (first:=[]) (cap:=[.bA [gj aU] 0]) ?_;refine aR.bj ai Tryz.func206 C C fun s I=>?_
 have h:=LP v (aU.map ho).length;rw [show fx ((aU.map ho).length:Int) v=fx aU.length v by rw [f6]] at h;unfold eJ at *;refine bZ ?_;exact bm I
theorem UO (aU:List dD) (v:Int×Int):eE d0 (.func 169 [] [.bA [gj aU] 0]) [eJ v] (.bool (fx aU.length v)):=by
 have aq:=bC;refine eE.fp (first:=[]) (cap:=[.bA [gj aU] 0]) ?_;refine aR.bj ai Tryz.func169 C C fun s I=>?_
 have h:=LP v (aU.map ho).length;rw [show fx ((aU.map ho).length:Int) v=fx aU.length v by rw [f6]] at h;unfold eJ at *;refine bZ ?_;exact bm I
theorem UP (w:bx) (hw:fT w) (aU:List dD) (o:dD) (ah:o.bl.length<bu):eE d0 (.func 204 [] [.bA [gn w] 0,.bA [gj aU] 0]) [ho o] (.bool (tr w aU.length o)):=by
 have aq:=bC;refine eE.fp (first:=[]) (cap:=[.bA [gn w] 0,.bA [gj aU] 0]) ?_;refine aR.bj ai Tryz.func204 C C fun s I=>?_
 obtain ⟨cls,bl⟩:=o;have o6:=hw.iV;have U:aR d0 199 [gn w,.int .i64 cls] (.bool (rX w cls)):=LA w (AM w) cls hw.iV;have an:=Lx 206 [] [.bA [gj aU] 0] (fx aU.length) bl ah (fun v _=>UN aU v);have hm:tr w aU.length ⟨cls,bl⟩=(rX w cls&&(decide (bl.length=(kH w ((ey w.ps).getD cls.toNat 0)).length)&&bl.all (fx aU.length))):=rfl;rw [hm];unfold ho;cases aA:rX w cls with
 | false=>
  rw [aA] at U;unfold gn e6 at *;refine bZ ?_;exact bm I
 | true=>
  rw [aA] at U;unfold rX at aA;simp only [f7,g8] at aA;obtain ⟨c,rfl⟩:∃ c:Nat,cls=c:=⟨cls.toNat,by omega⟩;have ae:=LR w hw c ag;unfold bg at ae;unfold gn e6 at *
  repeat' (first|(with_reducible first|apply ad.seq|apply bY|apply ad.ret)|refine cT C ?_|refine aJ.nil ?_|refine aJ.step C ?_|refine ad.lX ai mixed C ?_|refine aJ.dQ C C C C C ch ?_|(fail_if_success refine aJ.same true C ?_);(fail_if_success refine aJ.same false C ?_);refine aJ.gA C C (fun h=>?_) (fun h=>?_))
  all_goals (refine Fin.cp I C (aS.of_eq (congrArg af.bool ?_));clear I U ae an;rw [show ((c:Nat):Int).toNat=c from ac0 c];simp only [f6] at *;grind)
theorem UQ (w:bx) (hw:fT w) (aU:List dD) (aB:aU.length<bu) (ah:∀ o∈aU,o.bl.length<bu):aR d0 167 [gn w,gj aU] (.bool (ts w aU)):=by
 have aq:=bC;refine aR.bj ai Tryz.func167 C C fun s I=>?_
 have U:=T8 204 [] [.bA [gn w] 0,.bA [gj aU] 0] (tr w aU.length) aU aB (fun o h=>UP w hw aU o (ah o h));unfold gj gn e6 at *
 repeat' (first|(with_reducible first|apply ad.seq|apply bY|apply ad.ret)|refine cT C ?_|refine ad.cB ?_|refine aa.nil ?_|refine cx C ?_|refine aa.skip C C C ?_|refine aa.dQ C C C C C ch ?_|(fail_if_success refine aa.same true C ?_);(fail_if_success refine aa.same false C ?_);refine aa.gA C C (fun h=>?_) (fun h=>?_))
 all_goals (refine Fin.cp I C (aS.of_eq (congrArg af.bool ?_));clear I U;simp only [ts,f6] at *;grind)
theorem UR (w:bx) (hw:fT w) (aU:List dD) (args:List (Int×Int)) (aB:aU.length<bu) (ah:∀ o∈aU,o.bl.length<bu) (a8:args.length<bu):aR d0 123 [gn w,gj aU,jC args] (.bool (nC w aU args)):=by
 have aq:=bC;refine aR.bj ai Tryz.func123 C C fun s I=>?_
 have U:=UQ w hw aU aB ah;have ae:=Lx 169 [] [.bA [gj aU] 0] (fx aU.length) args a8 (fun v _=>UO aU v);unfold gj jC gn e6 at *
 repeat' (first|(with_reducible first|apply ad.seq|apply bY|apply ad.ret)|refine cT C ?_|refine ad.cB ?_|refine aa.nil ?_|refine cx C ?_|refine aa.skip C C C ?_|refine aa.dQ C C C C C ch ?_|(fail_if_success refine aa.same true C ?_);(fail_if_success refine aa.same false C ?_);refine aa.gA C C (fun h=>?_) (fun h=>?_))
 all_goals (refine Fin.cp I C (aS.of_eq (congrArg af.bool ?_));clear I U ae;simp only [nC,f6] at *;grind)
theorem US (w:bx):∀ (n:Nat) (f:aj),f.size≤n→n<bu→gi w f=true→aR d0 124 [f.bJ] (.int .i64 (iW f)):=by
 have aq:=bC;intro n
 induction n with
 | zero=>intro x h;have:=x.size_eq;omega
 | succ n a6=>
  intro f az iP aw;refine aR.bj ai Tryz.func124 C C fun s I=>?_
  have iv:=f.size_eq;have hlen:=aj.pP f.kids;have hK:=GC f;rw [m0,f7] at aw;rw [aj.bW] at hK ⊢;rw [Ag];have a8:f.cU=true→H1 .i64 (f.arg+1)=f.arg+1:=fun aB=>by
   have az:=aw.1;simp only [h3,aB,if_true,f7,g8] at az;exact eo ag ag
  cases aB:f.cU with
  | true=>
   rw [aB] at hK;refine bZ ?_;refine ad.b0 [12,13] C I (σ:=Nat) (fun j=>[(14,.int .i64 (j:Int)),(3,.int .i64 (ia (if f.cU then f.arg+1 else 0) (f.kids.take j)))]) (fun _=>[]) (fun j=>j≤f.kids.length) (fun j=>f.kids.length-j) 0 (g7 _) (by repeat (first|exact trivial|refine ⟨⟨_,rfl,aM⟩,?_⟩|refine ⟨⟨_,rfl,aS.of_eq uQ⟩,?_⟩)) aY ?_;rintro j aK I;refine b2 ?_;refine ad.cond C (fun ar=>?_) (fun aV=>?_);rotate_left
   ·have aV:j=f.kids.length:=by simp at aV;omega
    subst aV;rw [ac6];refine dB ?_;exact Fin.cp I C (aS.of_eq (by rw [aB]))
   have ar:j<f.kids.length:=by simpa using ar
   obtain ⟨k,aD,eG⟩:=bV (f:=aj.bJ) ar;have hm:=aj.hx (d5 aD);have aA:=a6 k ag ag (jy aw.2 (d5 aD));rw [aj.bW] at eG aA
   repeat (first|(refine Ki I ?_;clear I;intro I)|refine aa.d' ai I rfl rfl rfl rfl rfl rfl rfl (fun cy I=>?_)|(refine pM ?_))
   refine bn.mk (j+1) I ar (by repeat (first|exact trivial|refine ⟨⟨_,rfl,aM⟩,?_⟩|refine ⟨⟨_,rfl,aS.of_eq uP⟩,?_⟩)) aY (by show f.kids.length-(j+1)<f.kids.length-j;omega)
  | false=>
   rw [aB] at hK;refine bZ ?_;refine ad.b0 [12,13] C I (σ:=Nat) (fun j=>[(14,.int .i64 (j:Int)),(3,.int .i64 (ia (if f.cU then f.arg+1 else 0) (f.kids.take j)))]) (fun _=>[]) (fun j=>j≤f.kids.length) (fun j=>f.kids.length-j) 0 (g7 _) (by repeat (first|exact trivial|refine ⟨⟨_,rfl,aM⟩,?_⟩|refine ⟨⟨_,rfl,aS.of_eq uQ⟩,?_⟩)) aY ?_;rintro j aK I;refine b2 ?_;refine ad.cond C (fun ar=>?_) (fun aV=>?_);rotate_left
   ·have aV:j=f.kids.length:=by simp at aV;omega
    subst aV;rw [ac6];refine dB ?_;exact Fin.cp I C (aS.of_eq (by rw [aB]))
   have ar:j<f.kids.length:=by simpa using ar
   obtain ⟨k,aD,eG⟩:=bV (f:=aj.bJ) ar;have hm:=aj.hx (d5 aD);have aA:=a6 k ag ag (jy aw.2 (d5 aD));rw [aj.bW] at eG aA
   repeat (first|(refine Ki I ?_;clear I;intro I)|refine aa.d' ai I rfl rfl rfl rfl rfl rfl rfl (fun cy I=>?_)|(refine pM ?_))
   refine bn.mk (j+1) I ar (by repeat (first|exact trivial|refine ⟨⟨_,rfl,aM⟩,?_⟩|refine ⟨⟨_,rfl,aS.of_eq uP⟩,?_⟩)) aY (by show f.kids.length-(j+1)<f.kids.length-j;omega)
end Go.Proofs.YtnafpeohfbglmaaGreat
namespace Go.dv
def hd (p:bP):List (List Int):=p.cl.map fK.parents
def fF:Nat→List fK→List Int
 | _,[]=>[]
 | i,c::r=>t7 c.bl.length ((i:Int)+3)++fF (i+1) r
def b6 (p:bP):bx:=⟨hd p,fF 0 p.cl⟩
def nH:Int→List Int→Option Int
 | n,[]=>some n
 | n,s::r=>if s=n then nH (n+1) r else none
def lC:Int→List fK→Option Int
 | n,[]=>some n
 | n,c::r=>if c.bl.length≤4 then (nH n c.bl).bind fun m=>lC m r else none
def oh (cs:List fK):Nat→List Int→List Int→List Int
 | 0,_,out=>out
 | k+1,up,out=>
  if up.contains ((k:Int)+3) then oh cs k (up++(cs.getD k default).parents) (out++(cs.getD k default).bl)
  else oh cs k up out
def o7 (l:List Int):List Int:=l.mergeSort fun a b=>decide (a≤b)
def o8 (p:bP) (c:Nat):List Int:=o7 (oh p.cl (c+1) [(c:Int)+3] [])
def qV (wR:List Int):List Int→List iT→Bool
 | _,[]=>true
 | seen,x::r=>wR.contains x.slot&&(!seen.contains x.slot&&(km x.n&&qV wR (seen++[x.slot]) r))
def yr (p:bP) (i:Nat):List Int:=(fE (hd p) (2+(hd p).length)).getD i []
def GH (p:bP) (i:Nat) (c:fK):Bool := !(yr p (i+3)).isEmpty&&qV (o8 p i) [] c.inits
def qW (p:bP):Nat→List fK→Bool
 | _,[]=>true
 | i,c::r=>GH p i c&&qW p (i+1) r
def o9 (p:bP):Bool:=decide (p.cl.length≤10)&&((lC 0 p.cl==some p.bl)&&(mw (hd p)&&qW p 0 p.cl))
def m6 (p:bP) (x:iU) (size:Int):Bool:=
 if x.op=1 then km x.n
 else if x.op=3 then decide (x.n≥0)&&decide (x.n<size)
 else if x.op=4∨x.op=7 then decide (x.n≥0)&&decide (x.n<p.bl)
 else if x.op=6∨x.op=8 then decide (x.n≥3)&&decide (x.n<3+(p.cl.length:Int))
 else if x.op=5 then decide (x.n≥0)&&decide (x.n<(p.dw.length:Int))
 else decide (x.n≥0)&&decide (x.n<1)
def r4 (p:bP) (x:iU):Option Int:=
 if x.op=5 then some (p.dw.getD x.n.toNat 0)
 else if x.op=1∨x.op=2∨x.op=3∨x.op=6∨x.op=18 then some 0
 else if x.op=4∨x.op=8∨x.op=17 then some 1
 else if x.op=7∨x.op=9∨x.op=11∨x.op=12∨x.op=13∨x.op=14∨x.op=15∨x.op=16 then some 2
 else if x.op=10 then some 3
 else none
def yu (p:bP) (next:Bool) (x:iU) (size:Int):Bool:=m6 p x size&&((next||decide (x.op≠18))&&(r4 p x==some (x.kids.length:Int)))
def lD (g:Int→Int→List Int→Option (List Int)) (isLet:Bool) (size:Int):Nat→List Int→List Int→Option (List Int)
 | _,[],out=>some out
 | i,k::r,out=>(g k (if isLet&&i==1 then size+1 else size) out).bind (lD g isLet size (i+1) r)
def pa (p:bP) (n:Int) (out:List Int):Bool:=decide (n≥0)&&(decide (n<(p.nodes.length:Int))&&decide (out.getD n.toNat 0<0))
def visitM (p:bP) (next:Bool):Nat→Int→Int→List Int→Option (List Int)
 | 0,_,_,_=>none
 | f+1,n,size,out=>
  if pa p n out then
   if yu p next (p.nodes.getD n.toNat default) size then lD (visitM p next f) (decide ((p.nodes.getD n.toNat default).op=9)) size 0 (p.nodes.getD n.toNat default).kids (out.set n.toNat size)
   else none
  else none
def r5 (p:bP) (m:hJ):Bool:=
 decide (m.kind≥1)&&(decide (m.kind≤4)&&(decide (m.gen≥0)&&(decide (m.gen<(p.dw.length:Int))&&(h' (b6 p) m.fact&&decide (iW m.fact≤p.dw.getD m.gen.toNat 0)))))
def tz (k:Int):Bool:=decide (k=1)||decide (k=4)
def nI (p:bP):List hJ→List Int→Option (List Int)
 | [],out=>some out
 | m::r,out=>if r5 p m then (visitM p (tz m.kind) 12 m.node (p.dw.getD m.gen.toNat 0) out).bind (nI p r) else none
def p5 (p:bP):Bool:=
 decide (p.dw.length≤8)&&(decide (p.methods.length≤16)&&(decide (p.nodes.length≥1)&&(decide (p.nodes.length≤120)&&p.dw.all fun n=>decide (n≥1)&&decide (n≤3))))
def nJ (p:bP):Option (List Int):=
 if o9 p&&p5 p then
  (nI p p.methods (t7 p.nodes.length (-1))).bind fun out=>(visitM p false 12 p.main 0 out).bind fun out=>if out.contains (-1) then none else some out
 else none
def fG (p:bP):Bool:=(nJ p).isSome
theorem LS:∀ (l:List fK) (i:Nat),(∀ c∈l,c.bl.length≤4)→(fF i l).length≤4*l.length
  | [],_,_=>i0 _
  | c::r,i,h=>by
    have U:=LS r (i+1) (fun x ab=>h x (i5 _ ab));have ae:=h c i7;rw [fF,f8,ad9,i8];omega
theorem Dm:∀ (l:List fK) (i:Nat),∀ o∈fF i l,(i:Int)+3≤o∧o<3+(i:Int)+(l.length:Int)
  | [],_,o,h=>by cases h
  | c::r,i,o,h=>by
    rw [fF] at h;rcases ac9.1 h with h|h
    · obtain ⟨_,rfl⟩:=List.mem_replicate.1 h
      rw [i8];omega
    · have:=Dm r (i+1) o h
      rw [i8];omega
theorem GI:∀ {l:List fK} {n m:Int},lC n l=some m→∀ c∈l,c.bl.length≤4
  | c::r,n,m,h,x,ab=>by
    rw [lC] at h;split at h
    · rename_i aA
      cases az:nH n c.bl with
      | none=>rw [az] at h;cases h
      | some k=>
        rw [az] at h;rcases ad1.1 ab with rfl|ab
        · exact aA
        · exact GI (l:=r) h x ab
    · cases h
theorem LU:∀ (g:List (List Int)) (i:Nat),n7 i g=true→wE i g=true∧∀ l∈g,l.length≤3
  | [],_,_=>⟨rfl,fun l h=>by cases h⟩
  | x::r,i,h=>by
    rw [n7] at h;simp only [f7,g8] at h;obtain ⟨U,ae⟩:=LU r (i+1) h.2.2;refine ⟨by rw [wE,h.2.1,U];rfl,fun l aB=>?_⟩;rcases ad1.1 aB with rfl|aB
    · exact h.1
    · exact ae l aB
theorem LV {p:bP} (aA:p.cl.length≤10) {n:Int} (au:lC 0 p.cl=some n) (aw:mw (hd p)=true):fT (b6 p):=by
 unfold mw at aw;rw [f7] at aw;obtain ⟨g1,g2⟩:=LU _ _ aw.2;have aB:(hd p).length=p.cl.length:=f6 _;have U:=LS p.cl 0 (GI au);refine ⟨by show (hd p).length≤60;omega,g2,g1,by show (fF 0 p.cl).length≤40;omega,fun o ah=>?_⟩;have:=Dm p.cl 0 o ah;show 3≤o∧o<3+((hd p).length:Int);omega
theorem GJ {p:bP} (h:o9 p=true):fT (b6 p):=by
 unfold o9 at h;simp only [f7,g8,beq_iff_eq] at h;exact LV h.1 h.2.1 h.2.2.1
end Go.dv
namespace Go.Proofs.YtnafpeohfbglmaaGreat
open Go.cW Go.dv
def tA:af := .iface 298 (.agg [])
theorem UT (_u:Unit):aR d0 223 [.bool true] (.cu []):=by
 have aq:=bC;refine aR.bj ai Tryz.func223 C C fun s I=>?_
 refine bB ?_;exact bm I
theorem UU (_u:Unit):bE d0 223 [.bool false] ([]) (fun o K=>o = .panic tA∧K=[]):=by
 have aq:=bC;refine bE.bj ai Tryz.func223 C C fun s I=>?_
 refine bB ?_;refine aa.panic C C C C ?_;exact Fin.fc I aM .nil ⟨rfl,rfl⟩
theorem LW (n:Int):aR d0 257 [.int .i64 n] (.bool (km n)):=by
 have aq:=bC;refine aR.bj ai Tryz.func257 C C fun s I=>?_
 repeat' (first|(with_reducible first|apply ad.seq|apply bY|apply ad.ret)|refine cT C ?_|refine ad.cB ?_|refine aa.nil ?_|refine cx C ?_|refine aa.skip C C C ?_|(fail_if_success refine aa.same true C ?_);(fail_if_success refine aa.same false C ?_);refine aa.gA C C (fun h=>?_) (fun h=>?_))
 all_goals (refine Fin.cp I C (aS.of_eq (congrArg af.bool ?_));clear I;unfold km;grind)
theorem UW (c:fK) (aA:c.parents.length<bu):eE d0 (.func 232 [] []) [ji c] (bg c.parents):=by
 have aq:=bC;refine eE.fp (first:=[]) (cap:=[]) ?_;refine aR.bj ai Tryz.func232 C C fun s I=>?_
 have U:=AE c.parents .bc aA;unfold ji m4 bg at *;refine bZ ?_;exact bm I
theorem UX (cs:List fK) (aB:cs.length<bu) (hD:∀ c∈cs,c.parents.length<bu):aR d0 231 [.aC 3 (cs.map ji) .bc,.func 232 [] []] (cV (cs.map fK.parents)):=by
 have aq:=bC;refine aR.bj ai Tryz.func231 C C fun s I=>?_
 obtain ⟨xs,cY⟩:∃ xs:Nat→List af,∀ j,xs j=((cs.take j).map fK.parents).map bg:=⟨_,fun _=>rfl⟩;have br:xs 0=[]:=by rw [cY];rfl
 have e7:∀ j,(xs j).length≤cs.length:=fun j=>by
  rw [cY,f6,f6];exact ai6 _ _
 unfold cV;refine gg ?_;refine ad.h2 I 23 1 0 fun I=>?_
 refine ad.b0 [1,8,9] C I (σ:=Nat×bM) (fun q=>[(10,.int .i64 (q.1:Int)),(5,.aC 1 (xs q.1) q.2)]) (fun q=>[(q.2,.row 23 1 (xs q.1).length)]) (fun q=>q.1≤cs.length) (fun q=>cs.length-q.1) (0,.nil) (g7 _) ⟨⟨_,rfl,aM⟩,⟨_,rfl,by rw [br];exact aS.nil gW⟩,trivial⟩ uR ?_;rintro ⟨j,own⟩ aK I;simp only at aK I ⊢;refine b2 ?_;refine ad.cond C (fun ar=>?_) (fun aV=>?_);rotate_left;have aV:j=cs.length:=by
  have:cs.length≤j:=by simpa using aV
  omega
 ·subst aV
  have he:xs cs.length=(cs.map fK.parents).map bg:=by rw [cY,ac6]
  rw [he];have LX:=T4 ((cs.map fK.parents).map bg) own;refine c3 ?_;exact Fin.cp I C aS.bc
 have ar:j<cs.length:=by simpa using ar
 obtain ⟨c,ay,c'⟩:=bV (f:=ji) ar;have au:=cY (j+1);rw [iH ay,ac2,ac2,← cY] at au;have au:xs (j+1)=xs j++[.aC 1 (c.parents.map bb) .bc]:=au;have dd:(xs (j+1)).length=(xs j).length+1:=by rw [au];simp
 have lp:=e7 j;have oi:=UW c (hD c (d5 ay));unfold ji m4 bg at *;refine ea ?_;refine aa.gf ai I C C C C C C C et C C C C C C C C a1 hc pN ag (fun bR I=>?_);refine fu ?_;refine bn.mk (j+1,.own bR) I ar j1 tw (by show cs.length-(j+1)<cs.length-j;omega)
structure fN (p:bP):Prop where
 cls:p.cl.length<bu
 each:∀ c∈p.cl,c.parents.length<bu∧c.bl.length<bu∧c.inits.length<bu
 dw:p.dw.length<bu
 Dn:p.methods.length<bu
 facts:∀ m∈p.methods,3*m.fact.size+3<bu
 nodes:p.nodes.length<bu
 kids:∀ x∈p.nodes,x.kids.length<bu
theorem LY (p:bP) (aE:fN p):aR d0 188 [cJ p] (cV (hd p)):=by
 have aq:=bC;refine aR.bj ai Tryz.func188 C C fun s I=>?_
 have U:=UX p.cl aE.cls (fun c h=>(aE.each c h).1);unfold cJ cL;unfold cV hd at *;refine bZ ?_;exact bm I
theorem LZ (f:aj):aR d0 134 [f.bJ] (.bool f.cU):=by
 have aq:=bC;refine aR.bj ai Tryz.func134 C C fun s I=>?_
 rw [aj.bW]
 repeat' (first|(with_reducible first|apply ad.seq|apply bY|apply ad.ret)|refine cT C ?_|refine ad.cB ?_|refine aa.nil ?_|refine cx C ?_|refine aa.skip C C C ?_|(fail_if_success refine aa.same true C ?_);(fail_if_success refine aa.same false C ?_);refine aa.gA C C (fun h=>?_) (fun h=>?_))
 all_goals (refine Fin.cp I C (aS.of_eq (congrArg af.bool ?_));clear I;unfold aj.cU;grind)
theorem UY (w:bx) (c:Int) (hw:w.ps.length≤60):aR d0 140 [eF w,.int .i64 c] (.bool (decide (c≥3)&&decide (c<3+(w.ps.length:Int)))):=by
 have aq:=bC;refine aR.bj ai Tryz.func140 C C fun s I=>?_
 unfold eF eO cV bg;have df:H1 .i64 (3+((w.ps.map bg).length:Int))=3+(w.ps.length:Int):=by rw [f6,eo ag ag]
 unfold bg at df
 repeat' (first|(with_reducible first|apply ad.seq|apply bY|apply ad.ret)|refine cT C ?_|refine ad.cB ?_|refine aa.nil ?_|refine cx C ?_|refine aa.skip C C C ?_|(fail_if_success refine aa.same true C ?_);(fail_if_success refine aa.same false C ?_);refine aa.gA C C (fun h=>?_) (fun h=>?_))
 all_goals exact Fin.cp I C (aS.of_eq qS)
theorem UZ (w:bx) (c:Int) (hw:w.ps.length≤60):aR d0 132 [eF w,.int .i64 c] (.bool (decide (c≥0)&&decide (c<3+(w.ps.length:Int)))):=by
 have aq:=bC;refine aR.bj ai Tryz.func132 C C fun s I=>?_
 unfold eF eO cV bg;have df:H1 .i64 (3+((w.ps.map bg).length:Int))=3+(w.ps.length:Int):=by rw [f6,eo ag ag]
 unfold bg at df
 repeat' (first|(with_reducible first|apply ad.seq|apply bY|apply ad.ret)|refine cT C ?_|refine ad.cB ?_|refine aa.nil ?_|refine cx C ?_|refine aa.skip C C C ?_|(fail_if_success refine aa.same true C ?_);(fail_if_success refine aa.same false C ?_);refine aa.gA C C (fun h=>?_) (fun h=>?_))
 all_goals exact Fin.cp I C (aS.of_eq qS)
theorem U0 (w:bx) (l:List Int) (aB:l.length<bu):aR d0 133 [eF w,bg l] (.bool (l.all (fun c=>decide (c≥0)&&decide (c<(w.owner.length:Int)))&&decide (l.length≤2))):=by
 have aq:=bC;refine aR.bj ai Tryz.func133 C C fun s I=>?_
 unfold eF eO cV bg;refine gg ?_;refine ad.b0 [0,1,2,7,8] C I (σ:=Nat) (fun j=>[(9,.int .i64 (j:Int))]) (fun _=>[]) (fun j=>j≤l.length∧l.all (fun c=>decide (c≥0)&&decide (c<(w.owner.length:Int)))=(l.drop j).all (fun c=>decide (c≥0)&&decide (c<(w.owner.length:Int)))) (fun j=>l.length-j) 0 ⟨g7 _,rfl⟩ (ck C) aY ?_;rintro j ⟨aK,ak⟩ I
 try simp only at aK ak I ⊢
 refine b2 ?_;refine ad.cond C (fun ar=>?_) (fun aV=>?_);rotate_left
 ·have aV:j=l.length:=by simp at aV;omega
  rw [ef ag,ak0] at ak;rw [ak,f0];refine dB ?_;exact Fin.cp I C (aS.of_eq qS)
 have ar:j<l.length:=by simpa using ar
 obtain ⟨x,ab,bL⟩:=bV (f:=bb) ar;rw [drop_cons ab,ah1] at ak;unfold bb at bL;refine dC ?_;cases U:decide (x≥0) with
 | false=>
  rw [U,f5,f5] at ak;rw [ak,f5];refine aa.ds 15 C (by simp at U ⊢;omega) ?_;refine e5 ?_;exact bm I
 | true=>
 rw [U,f0] at ak;refine aa.c2 15 C (by simp at U ⊢;omega) ?_;refine fI ?_;refine ad.cond C (fun ae=>?_) (fun ae=>?_)
 ·rw [show decide (x<(w.owner.length:Int))=false by simp at ae ⊢;omega,f5] at ak
  rw [ak,f5];refine jg ?_;exact bm I
 rw [show decide (x<(w.owner.length:Int))=true by simp at ae ⊢;omega,f0] at ak;refine fR ?_;exact bn.mk (j+1) I ⟨ar,ak⟩ b' aY l3
theorem U1:∀ (n:Nat) (f:aj) (fL:Int),f.size≤n→n<bu → -bu≤fL→fL≤bu→aR d0 131 [f.bJ,.int .i64 fL] (.int .i64 (m1 f fL)):=by
 have aq:=bC;intro n
 induction n with
 | zero=>intro f fL h;have:=f.size_eq;omega
 | succ n a6=>
 intro f fL az iP qw ml;have iv:=f.size_eq;have hlen:=aj.pP f.kids;have LX:=uK f.kids;refine aR.bj ai Tryz.func131 C C fun s I=>?_
 rw [aj.bW];refine gg ?_;refine ad.b0 [1,2] C I (σ:=Nat×Int) (fun q=>[(6,.int .i64 (q.1:Int)),(5,.int .i64 q.2)]) (fun _=>[]) (fun q=>q.1≤f.kids.length∧o2 f.kids fL 1=o2 (f.kids.drop q.1) fL q.2∧1≤q.2∧q.2+kJ (f.kids.drop q.1)≤1+kJ f.kids) (fun q=>f.kids.length-q.1) (0,1) ⟨g7 _,rfl,ai0 _,ai0 _⟩ (ck C) aY ?_;rintro ⟨j,m⟩ ⟨aK,ak,hm,aA⟩ I
 try simp only at aK ak hm aA I ⊢
 have U2:=uK (f.kids.drop j);refine jM ?_;by_cases ar:j<f.kids.length;rotate_left
 ·rw [ef ag,o2] at ak
  refine aa.c2 12 C cE ?_;rw [KJ,ak];refine bB ?_;exact bm I
 refine aa.ds 12 C cE ?_;obtain ⟨x,ab,bL⟩:=bV (f:=aj.bJ) ar;rw [drop_cons ab,o2] at ak;rw [drop_cons ab,kJ] at aA;rw [drop_cons ab,kJ] at U2;refine fI ?_;refine ad.cond C (fun ae=>?_) (fun ae=>?_);rotate_left
 ·rw [d9 qg] at ak
  rw [KJ,ak];refine dB ?_;exact bm I
 have ae:m≤fL:=by simpa using ae
 rw [f9 ae] at ak;have gb:=aj.hx (d5 ab);have L0:=C' x;have yv:=(F5 x (fL-m)).2.2;have abH:=uK (f.kids.drop (j+1));have je:=a6 x (fL-m) ag ag ag ag;rw [aj.bW] at je bL;rw [show fL-m=H1 .i64 (fL-m) by rw [eo ag ag]] at je;refine bZ ?_;exact bn.mk (j+1,m+m1 x (fL-m)) I ⟨ar,ak,by show 1≤m+m1 x (fL-m);omega,by show m+m1 x (fL-m)+kJ (f.kids.drop (j+1))≤_;omega⟩ (by repeat (first|exact trivial|refine ⟨⟨_,rfl,aM⟩,?_⟩|refine ⟨⟨_,rfl,aS.of_eq (by (first|rw [jv ag]|(rw [eo FN FN,eo ag ag])))⟩,?_⟩)) aY (by show f.kids.length-(j+1)<f.kids.length-j;omega)
theorem U3 (f:aj) (aZ:f.size<bu):aR d0 85 [f.bJ] (.int .i64 (m1 f 24)):=by
 have aq:=bC;refine aR.bj ai Tryz.func85 C C fun s I=>?_
 have U:=U1 f.size f 24 (i0 _) aZ ag ag;rw [aj.bW] at *;refine bZ ?_;exact bm I
theorem U4:∀ (n:Nat) (f:aj),f.size≤n→n<bu→aR d0 86 [f.bJ] (.int .i64 (m2 f)):=by
 have aq:=bC;intro n
 induction n with
 | zero=>intro f h;have:=f.size_eq;omega
 | succ n a6=>
 intro f az iP;have iv:=f.size_eq;have hlen:=aj.pP f.kids;have L1:=F7 f;refine aR.bj ai Tryz.func86 C C fun s I=>?_
 rw [Tj] at L1 ⊢;rw [aj.bW];refine gg ?_;refine ad.b0 [1,7,8] C I (σ:=Nat×Int) (fun q=>[(9,.int .i64 (q.1:Int)),(3,.int .i64 q.2)]) (fun _=>[]) (fun q=>q.1≤f.kids.length∧l1 0 f.kids=l1 q.2 (f.kids.drop q.1)∧0≤q.2) (fun q=>f.kids.length-q.1) (0,0) ⟨g7 _,rfl,ai0 _⟩ (ck C) aY ?_;rintro ⟨j,m⟩ ⟨aK,ak,hm⟩ I
 try simp only at aK ak hm I ⊢
 refine b2 ?_;refine ad.cond C (fun ar=>?_) (fun aV=>?_);rotate_left
 ·have aV:j=f.kids.length:=by simp at aV;omega
  rw [ef ag,l1] at ak;rw [ak] at L1 ⊢;refine dB ?_;exact Fin.cp I C (aS.of_eq (by rw [eo ag ag]))
 have ar:j<f.kids.length:=by simpa using ar
 obtain ⟨x,ab,bL⟩:=bV (f:=aj.bJ) ar;rw [drop_cons ab,l1] at ak;have gb:=aj.hx (d5 ab);have L0:=F7 x;have je:=a6 x ag ag;rw [aj.bW] at je bL;refine ea ?_;exact bn.mk (j+1,max m (m2 x)) I ⟨ar,ak,by show 0≤max m (m2 x);omega⟩ (by repeat (first|exact trivial|refine ⟨⟨_,rfl,aM⟩,?_⟩|refine ⟨⟨_,rfl,aS.of_eq (by (first|rw [jv ag]|(congr 1;split<;>omega)))⟩,?_⟩)) aY (by show f.kids.length-(j+1)<f.kids.length-j;omega)
theorem U5 (w:bx):∀ (n:Nat) (f:aj),f.size≤n→n<bu→gi w f=true→aR d0 137 [f.bJ] (.int .i64 (iW f)):=by
 have aq:=bC;intro n
 induction n with
 | zero=>intro x h;have:=x.size_eq;omega
 | succ n a6=>
  intro f az iP aw;refine aR.bj ai Tryz.func137 C C fun s I=>?_
  have iv:=f.size_eq;have hlen:=aj.pP f.kids;have hK:=LZ f;rw [m0,f7] at aw;rw [aj.bW] at hK ⊢;rw [Ag];have a8:f.cU=true→H1 .i64 (f.arg+1)=f.arg+1:=fun aB=>by
   have az:=aw.1;simp only [h3,aB,if_true,f7,g8] at az;exact eo ag ag
  cases aB:f.cU with
  | true=>
   rw [aB] at hK;refine bZ ?_;refine ad.b0 [1,12,13] C I (σ:=Nat) (fun j=>[(14,.int .i64 (j:Int)),(3,.int .i64 (ia (if f.cU then f.arg+1 else 0) (f.kids.take j)))]) (fun _=>[]) (fun j=>j≤f.kids.length) (fun j=>f.kids.length-j) 0 (g7 _) (by repeat (first|exact trivial|refine ⟨⟨_,rfl,aM⟩,?_⟩|refine ⟨⟨_,rfl,aS.of_eq uQ⟩,?_⟩)) aY ?_;rintro j aK I;refine b2 ?_;refine ad.cond C (fun ar=>?_) (fun aV=>?_);rotate_left
   ·have aV:j=f.kids.length:=by simp at aV;omega
    subst aV;rw [ac6];refine dB ?_;exact Fin.cp I C (aS.of_eq (by rw [aB]))
   have ar:j<f.kids.length:=by simpa using ar
   obtain ⟨k,aD,eG⟩:=bV (f:=aj.bJ) ar;have hm:=aj.hx (d5 aD);have aA:=a6 k ag ag (jy aw.2 (d5 aD));rw [aj.bW] at eG aA;refine ea ?_;refine bn.mk (j+1) I ar (by repeat (first|exact trivial|refine ⟨⟨_,rfl,aM⟩,?_⟩|refine ⟨⟨_,rfl,aS.of_eq uP⟩,?_⟩)) aY (by show f.kids.length-(j+1)<f.kids.length-j;omega)
  | false=>
   rw [aB] at hK;refine bZ ?_;refine ad.b0 [1,12,13] C I (σ:=Nat) (fun j=>[(14,.int .i64 (j:Int)),(3,.int .i64 (ia (if f.cU then f.arg+1 else 0) (f.kids.take j)))]) (fun _=>[]) (fun j=>j≤f.kids.length) (fun j=>f.kids.length-j) 0 (g7 _) (by repeat (first|exact trivial|refine ⟨⟨_,rfl,aM⟩,?_⟩|refine ⟨⟨_,rfl,aS.of_eq uQ⟩,?_⟩)) aY ?_;rintro j aK I;refine b2 ?_;refine ad.cond C (fun ar=>?_) (fun aV=>?_);rotate_left
   ·have aV:j=f.kids.length:=by simp at aV;omega
    subst aV;rw [ac6];refine dB ?_;exact Fin.cp I C (aS.of_eq (by rw [aB]))
   have ar:j<f.kids.length:=by simpa using ar
   obtain ⟨k,aD,eG⟩:=bV (f:=aj.bJ) ar;have hm:=aj.hx (d5 aD);have aA:=a6 k ag ag (jy aw.2 (d5 aD));rw [aj.bW] at eG aA;refine ea ?_;refine bn.mk (j+1) I ar (by repeat (first|exact trivial|refine ⟨⟨_,rfl,aM⟩,?_⟩|refine ⟨⟨_,rfl,aS.of_eq uP⟩,?_⟩)) aY (by show f.kids.length-(j+1)<f.kids.length-j;omega)
def wS (w:bx) (f:aj):Bool:=
 if f.op=2 then decide (f.n=0)&&(decide (f.cls≥0)&&decide (f.cls<3+(w.ps.length:Int)))
 else if f.op=3∨f.op=4 then decide (f.cls=0)&&km f.n
 else decide (f.op=1∨5≤f.op∧f.op≤7)
def uX (w:bx) (f:aj):Bool:=
 decide (f.kids.length=pQ f.op)&&(decide (f.arg≥0)&&(decide (f.arg<3)&&(f.path.all (fun c=>decide (c≥0)&&decide (c<(w.owner.length:Int)))&&(decide (f.path.length≤2) &&
  (f.cU||(decide (f.arg=0)&&(decide (f.path.length=0)&&(decide (f.cls=0)&&decide (f.n=0)))))))))
theorem U6 (w:bx) (f:aj):h3 w f=(wS w f&&uX w f):=by
 rw [ad3];unfold h3 wS uX aj.cU km;simp only [f7,ag',g8,af3];grind
theorem U7 (w:bx) (hw:w.ps.length≤60):∀ (n:Nat) (f:aj),f.size≤n→n<bu→aR d0 87 [eF w,f.bJ] (.bool (gi w f)):=by
  have aq:=bC;intro n
  induction n with
  | zero=>intro x h;have:=x.size_eq;omega
  | succ n a6=>
    intro f az iP;refine aR.bj ai Tryz.func87 C C fun s I=>?_
    have iv:=f.size_eq;have hlen:=aj.pP f.kids;have ae:=LZ f;have an:=U0 w f.path ag;have bd:=UZ w f.cls hw;rw [m0,U6];rw [aj.bW] at ae ⊢;unfold eF eO cV bg at an bd ⊢;refine ad.seq ?_
    (repeat (first|with_reducible apply bY|refine cT C ?_|refine ad.cB ?_|refine aa.nil ?_|refine cx C ?_));refine ad.seq ?_
    (repeat (first|with_reducible apply bY|refine cT C ?_|refine ad.cB ?_|refine aa.nil ?_|refine cx C ?_));refine ad.seq (ad.S4 (σ:=Unit) (fun _=>[(2,.bA [.aC 1 (w.ps.map fun l => .aC 1 (l.map bb) .bc) .bc,.aC 1 (w.owner.map bb) .bc] 0),(3,.bA f.cells 0),(5,.int .i64 (pQ f.op))]) (fun _=>[]) (fun _=>wS w f=true) ?_ ?_)
    · repeat' (first|(with_reducible first|apply ad.seq|apply bY|apply fg|apply gG|apply ad.ret|apply ad.skip|apply ad.block)|refine cT C ?_|refine ad.cB ?_|refine aa.nil ?_|refine ad.e8 C ?_|refine cx C ?_|refine aa.skip C C C ?_|refine aa.dQ C C C C C ch ?_|(fail_if_success refine aa.same true C ?_);(fail_if_success refine aa.same false C ?_);refine aa.gA C C (fun h=>?_) (fun h=>?_)|refine ad.cond C (fun h=>?_) (fun h=>?_))
      all_goals first
        | (have key:wS w f=false:=by
            clear a6 I ae an bd az iv
            unfold wS km
            grind
           exact Fin.cp I C (aS.of_eq (by rw [key];rfl)))
        | (have key:wS w f=true:=by
            clear a6 I ae an bd az iv
            unfold wS km
            grind
           exact CZ.mk () I key (by repeat (first|exact trivial|refine ⟨⟨_,rfl,aM⟩,?_⟩|refine ⟨⟨_,rfl,aS.of_eq (by (congr 1;clear a6 I ae an bd az iv;unfold pQ;grind))⟩,?_⟩)) .nil)
    rintro _ ah I;unfold aj.cells;rw [ah,f0]
    have bh:∀ b,f.cU=b→uX w f=(decide (f.kids.length=pQ f.op)&&(decide (f.arg≥0)&&(decide (f.arg<3)&&(f.path.all (fun c=>decide (c≥0)&&decide (c<(w.owner.length:Int)))&&(decide (f.path.length≤2) &&
      (b||(decide (f.arg=0)&&(decide (f.path.length=0)&&(decide (f.cls=0)&&decide (f.n=0)))))))))):=fun b aq=>(by unfold uX;rw [aq])
    cases aB:f.cU with
    | true=>
      rw [aB] at ae;have bh:=bh _ aB
      repeat' (first|(with_reducible first|apply ad.seq|apply bY|apply fm|apply ad.ret|apply ad.skip|apply ad.block)|refine cT C ?_|refine ad.cB ?_|refine aa.nil ?_|refine ad.e8 C ?_|refine ad.gr C ?_|refine cx C ?_|refine aa.skip C C C ?_|refine aa.dQ C C C C C ch ?_|(fail_if_success refine aa.same true C ?_);(fail_if_success refine aa.same false C ?_);refine aa.gA C C (fun h=>?_) (fun h=>?_)|refine ad.cond C (fun h=>?_) (fun h=>?_))
      all_goals first
        | (have key:uX w f=false:=by
            clear a6 I ae an bd az iv
            rw [bh]
            simp only [f6] at *
            grind
           exact Fin.cp I C (aS.of_eq (by rw [key];rfl)))
        | skip
      · have key:uX w f=true:=by
          clear a6 I ae an bd az iv;rw [bh];simp only [f6] at *;grind
        rw [key,f0];clear key;skip;refine ad.b0 [2,3,92,93] C I (σ:=Nat) (fun j=>[(94,.int .i64 (j:Int))]) (fun _=>[]) (fun j=>j≤f.kids.length∧j5 w f.kids=j5 w (f.kids.drop j)) (fun j=>f.kids.length-j) 0 ⟨g7 _,rfl⟩ (ck C) aY ?_;rintro j ⟨aK,ak⟩ I
        try simp only at aK ak I ⊢
        refine b2 ?_;refine ad.cond C (fun ar=>?_) (fun aV=>?_);rotate_left
        · have aV:j=f.kids.length:=by simp at aV;omega
          rw [ef ag,j5] at ak;rw [ak];refine dB ?_;exact bm I
        have ar:j<f.kids.length:=by simpa using ar
        obtain ⟨x,ab,bL⟩:=bV (f:=aj.bJ) ar;rw [drop_cons ab,j5] at ak;have gb:=aj.hx (d5 ab);have je:=a6 x ag ag;rw [aj.bW] at je bL;unfold eF eO cV bg at je;cases aw:gi w x with
        | false=>
          rw [aw,f5] at ak;rw [aw] at je;rw [ak];refine ea ?_;exact bm I
        | true=>
          rw [aw,f0] at ak;rw [aw] at je;refine ea ?_;exact bn.mk (j+1) I ⟨ar,ak⟩ b' aY (by show f.kids.length-(j+1)<f.kids.length-j;omega)
    | false=>
      rw [aB] at ae;have bh:=bh _ aB
      repeat' (first|(with_reducible first|apply ad.seq|apply bY|apply fm|apply ad.ret|apply ad.skip|apply ad.block)|refine cT C ?_|refine ad.cB ?_|refine aa.nil ?_|refine ad.e8 C ?_|refine cx C ?_|refine aa.skip C C C ?_|refine aa.dQ C C C C C ch ?_|(fail_if_success refine aa.same true C ?_);(fail_if_success refine aa.same false C ?_);refine aa.gA C C (fun h=>?_) (fun h=>?_)|refine ad.cond C (fun h=>?_) (fun h=>?_))
      all_goals first
        | (have key:uX w f=false:=by
            clear a6 I ae an bd az iv
            rw [bh]
            simp only [f6] at *
            grind
           exact Fin.cp I C (aS.of_eq (by rw [key];rfl)))
        | skip
      · have key:uX w f=true:=by
          clear a6 I ae an bd az iv;rw [bh];simp only [f6] at *;grind
        rw [key,f0];clear key;skip;refine ad.b0 [2,3,92,93] C I (σ:=Nat) (fun j=>[(94,.int .i64 (j:Int))]) (fun _=>[]) (fun j=>j≤f.kids.length∧j5 w f.kids=j5 w (f.kids.drop j)) (fun j=>f.kids.length-j) 0 ⟨g7 _,rfl⟩ (ck C) aY ?_;rintro j ⟨aK,ak⟩ I
        try simp only at aK ak I ⊢
        refine b2 ?_;refine ad.cond C (fun ar=>?_) (fun aV=>?_);rotate_left
        · have aV:j=f.kids.length:=by simp at aV;omega
          rw [ef ag,j5] at ak;rw [ak];refine dB ?_;exact bm I
        have ar:j<f.kids.length:=by simpa using ar
        obtain ⟨x,ab,bL⟩:=bV (f:=aj.bJ) ar;rw [drop_cons ab,j5] at ak;have gb:=aj.hx (d5 ab);have je:=a6 x ag ag;rw [aj.bW] at je bL;unfold eF eO cV bg at je;cases aw:gi w x with
        | false=>
          rw [aw,f5] at ak;rw [aw] at je;rw [ak];refine ea ?_;exact bm I
        | true=>
          rw [aw,f0] at ak;rw [aw] at je;refine ea ?_;exact bn.mk (j+1) I ⟨ar,ak⟩ b' aY (by show f.kids.length-(j+1)<f.kids.length-j;omega)
theorem U8 (w:bx) (hw:w.ps.length≤60) (f:aj) (aZ:f.size<bu):aR d0 35 [eF w,f.bJ] (.bool (h' w f)):=by
 have aq:=bC;refine aR.bj ai Tryz.func35 C C fun s I=>?_
 have U:=U3 f aZ;have ae:=U4 f.size f (i0 _) aZ;have an:=U7 w hw f.size f (i0 _) aZ;rw [← Tk];rw [aj.bW] at *;unfold eF eO cV bg at *
 repeat' (first|(with_reducible first|apply ad.seq|apply bY|apply ad.ret)|refine cT C ?_|refine ad.cB ?_|refine aa.nil ?_|refine cx C ?_|refine aa.skip C C C ?_|refine aa.dQ C C C C C ch ?_|(fail_if_success refine aa.same true C ?_);(fail_if_success refine aa.same false C ?_);refine aa.gA C C (fun h=>?_) (fun h=>?_))
 all_goals (refine Fin.cp I C (aS.of_eq (congrArg af.bool ?_));clear I U ae an;grind)
def hW (n:Nat) (f:Nat→Bool):List af:=(ae7 n).map fun k => .bool (f k)
theorem nK (n:Nat) (f:Nat→Bool):(hW n f).length=n:=by unfold hW;simp
theorem tB {n:Nat} (f:Nat→Bool) {k:Nat} (h:k<n):(hW n f)[k]? = some (.bool (f k)):=by
 unfold hW;rw [ad2,List.getElem?_range h];rfl
theorem AN {n p:Nat} {b:Bool} {g g':Nat→Bool} (h:∀ k,g' k=if k=p then b else g k):(hW n g).set p (.bool b)=hW n g':=by
 refine List.ext_getElem? fun i=>?_
 rw [List.getElem?_set,nK];by_cases aQ:i<n
 ·rw [tB _ aQ,tB _ aQ,h]
  by_cases e:p=i
  ·subst e;rw [f9 C,f9 aQ,f9 C]
  ·rw [d9 e,d9 (fun h=>e h.symm)]
 ·rw [aj9 (by rw [nK];omega),aj9 (by rw [nK];omega)]
  split
  ·split<;>first|omega|rfl
  ·rfl
theorem GK (n:Nat):t7 n (af.bool false)=hW n (fun _=>false):=by
 unfold hW;rw [List.map_const',List.length_range]
theorem U9 (n:Nat) (f:Nat→Bool):(hW n f).all fa=true:=by
 unfold hW;rw [List.all_map];simp [Function.comp_def,fa]
theorem GL {l:List Int} {j:Nat} {p:Int} (h:l[j]? = some p) (k:Int):(l.take (j+1)).contains k=((l.take j).contains k||k==p):=by
 rw [iH h,al0,List.contains_cons,List.contains_nil,ak4]
theorem U' (w:bx) (hw:fT w) (c:Nat) (aA:c<3+w.ps.length):aR d0 186 [eF w,.int .i64 (c:Int)] (.aC 1 (hW (3+w.ps.length) (wH w c)) .bc):=by
 have aq:=bC;refine aR.bj ai Tryz.func186 C C fun s I=>?_
 have qX:=hw.iV;unfold eF eO cV bg;have df:H1 .i64 (3+((w.ps.map fun l=>af.aC 1 (l.map bb) .bc).length:Int))=((3+w.ps.length:Nat):Int):=by rw [f6,eo ag ag];push_cast;rfl
 refine dL ?_;refine aa.uN ai I (3+w.ps.length) C C C C C C C C C C (congrArg (fun z=>some (af.int .i64 z)) df) (congrArg (fun z=>some (af.int .i64 z)) df) (by show _*1≤_;omega) ag (fun b I=>?_);rw [GK] at I ⊢;refine ht ?_;refine aa.fo ai c C C C C C C C C C C aA ?_;refine aa.j8 ai I (hW (3+w.ps.length) fun k=>decide (k=c)) C C C C C C C C C a1 (by rw [nK];show c*1+1≤_;omega) (by rw [pT,ag7];exact AN fun k=>by by_cases e:k=c<;>simp [e]) (fun I=>?_);refine bB ?_;refine ad.b0 [2,5] C I (σ:=Nat×(Nat→Bool)) (fun q=>[(6,.int .i64 (q.1:Int))]) (fun q=>[(.own b,.box 4 (hW (3+w.ps.length) q.2))]) (fun q=>q.1≤c∧wH w c=hn w.ps (q.1-2) q.2) (fun q=>q.1) (c,fun k=>decide (k=c)) ⟨i0 _,rfl⟩ (ck C) aY ?_;rintro ⟨q,f⟩ ⟨bq,ak⟩ I
 try simp only at bq ak I ⊢
 refine b2 ?_;refine ad.cond C (fun aV=>?_) (fun ar=>?_);rotate_left
 ·have ar:q<3:=by simp at ar;omega
  rw [show q-2=0 by omega,hn] at ak;refine ad.uG I 5 b (n:=3+w.ps.length) (cap:=3+w.ps.length) C .here (by rw [nK]) ag ag (by rw [af0 (by rw [nK];omega)];exact U9 _ _) (fun I=>?_);rw [af0 (by rw [nK];omega),ak];refine dB ?_;exact bm I
 have aV:3≤q:=by simp at aV;omega
 obtain ⟨m,rfl⟩:∃ m,q=3+m:=⟨q-3,by omega⟩;obtain ⟨l,aB,pJ⟩:=bV (f:=bg) (show m<w.ps.length by omega);have GM:=fun p aE=>wG hw aB (p:=p) aE
 have abI:=hw.short l (d5 aB);have kl:H1 .i64 (((3+m:Nat):Int)-3)=(m:Int):=by rw [eo ag ag];omega
 rw [show 3+m-2=m+1 by omega,hn,d6,aB,ae1] at ak;unfold bg at pJ;refine dC ?_;refine aa.idx ai m C C C C C C C C C C kl pJ C ?_;refine dC ?_
 refine ad.b0 [2,5,6,27,28] C I (σ:=Nat) (fun j=>[(29,.int .i64 (j:Int))]) (fun j=>[(.own b,.box 4 (hW (3+w.ps.length) fun k=>f k||(f (3+m)&&(l.take j).contains (k:Int))))]) (fun j=>j≤l.length) (fun j=>l.length-j) 0 (g7 _) (ck C) (by
  rw [show (fun k=>f k||(f (3+m)&&(l.take 0).contains (k:Int)))=f from funext fun k=>by rw [aj2];simp]
  exact aH.all _) ?_
 rintro j aK I
 try simp only at aK I ⊢
 refine b2 ?_;refine ad.cond C (fun ar=>?_) (fun aV=>?_);rotate_left
 ·have aV:j=l.length:=by simp at aV;omega
  rw [aV,ac6] at I ⊢;refine bB ?_;exact bn.mk (2+m,fun k=>f k||(f (3+m)&&l.contains (k:Int))) I ⟨by show 2+m≤c;omega,by show _=hn w.ps (2+m-2) _;rw [show 2+m-2=m by omega];exact ak⟩ (by repeat (first|exact trivial|refine ⟨⟨_,rfl,aM⟩,?_⟩|refine ⟨⟨_,rfl,aS.of_eq (by (rw [eo ag ag];congr 1;simp only;omega))⟩,?_⟩)) aY (by show 2+m<3+m;omega)
 have ar:j<l.length:=by simpa using ar
 obtain ⟨p,aE,e9⟩:=bV (f:=bb) ar;have Va:=GM p (d5 aE);unfold bb at e9;obtain ⟨g,aw⟩:∃ g,g=fun k=>f k||(f (3+m)&&(l.take j).contains (k:Int)):=⟨_,rfl⟩
 have Vb:g (3+m)=f (3+m):=by rw [aw];simp only;cases f (3+m)<;>simp
 have Dp:∀ k,(f k||(f (3+m)&&(l.take (j+1)).contains (k:Int)))=if k=p.toNat then (g p.toNat||f (3+m)) else g k:=fun k=>by
  rw [GL aE,aw];simp only;by_cases e:k=p.toNat
  ·subst e
   rw [f9 C,show ((p.toNat:Nat):Int)==p by simp;omega];cases f p.toNat<;>cases f (3+m)<;>simp
  ·rw [d9 e,show ((k:Int)==p)=false by rw [beq_eq_false_iff_ne];omega,ak4]
 rw [← aw] at I ⊢;refine dC ?_;refine aa.fo ai p.toNat C C C C C C C C C ag ag ?_;obtain ⟨v,av⟩:∃ v,v=g p.toNat:=⟨_,rfl⟩;refine aa.j7 ai I C C C C C C a1 C (v := .bool v) (by rw [av,ag7];exact tB g ag) ?_;cases v with
 | true=>
  refine ew ?_;refine aa.fo ai p.toNat C C C C C C C C C ag ag ?_;refine aa.j8 ai I (hW (3+w.ps.length) fun k=>f k||(f (3+m)&&(l.take (j+1)).contains (k:Int))) C C C C C C C C C a1 (by rw [nK];show p.toNat*1+1≤_;omega) (by rw [pT,ag7];exact AN fun k=>by rw [Dp,← av,ai4]) (fun I=>?_);refine fu ?_;exact bn.mk (j+1) I ar b' aY l3
 | false=>
  refine dS ?_;refine aa.fo ai (3+m) C C C C C C C C C C ag ?_;refine aa.j7 ai I C C C C C C a1 C (v := .bool (f (3+m))) (by rw [← Vb,ag7];exact tB g ag) ?_;refine dS ?_;refine aa.fo ai p.toNat C C C C C C C C C ag ag ?_;refine aa.j8 ai I (hW (3+w.ps.length) fun k=>f k||(f (3+m)&&(l.take (j+1)).contains (k:Int))) C C C C C C C C C a1 (by rw [nK];show p.toNat*1+1≤_;omega) (by rw [pT,ag7];exact AN fun k=>by rw [Dp,← av,Bool.false_or]) (fun I=>?_);refine fu ?_;exact bn.mk (j+1) I ar b' aY l3
theorem L2 (w:bx) (hw:fT w) (a b:Nat) (a8:a<3+w.ps.length) (lj:b<3+w.ps.length):aR d0 144 [eF w,.int .i64 (a:Int),.int .i64 (b:Int)] (.bool (((ey w.ps).getD a 0).testBit b)):=by
 have aq:=bC;refine aR.bj ai Tryz.func144 C C fun s I=>?_
 have qX:=hw.iV;have rY:=U' w hw a a8;unfold eF eO cV bg at *;by_cases U:a=b
 ·subst U
  rw [C8 hw a8];refine dL ?_;refine aa.ds 11 C ba ?_;refine ew ?_;exact bm I
 have g1:((a:Int)==(b:Int))=false:=by rw [beq_eq_false_iff_ne];omega
 refine dL ?_;refine aa.c2 11 C g1 ?_;refine fI ?_;refine ad.cond C (fun ae=>?_) (fun ae=>?_)
 ·have ae:b=0:=by simpa using ae
  subst ae;rw [Ti hw a8];refine gH ?_;exact bm I
 have ae:b≠0:=by simpa using ae
 refine jh ?_;refine ad.cond C (fun an=>?_) (fun an=>?_)
 ·have an:a<3:=by simp at an;omega
  have:((ey w.ps).getD a 0).testBit b=false:=by
   rw [ad0];intro h;have:=C9 an h;omega
  rw [this];refine gH ?_;exact bm I
 have kg:=tB (n:=3+w.ps.length) (wH w a) lj;refine c3 ?_;rw [← F4 hw a8 ag];exact bm I
theorem GN (w:bx) (hw:fT w) (c bt o:Nat) (aA:c<3+w.ps.length) (ah:w.owner[bt]? = some (o:Int)):aR d0 182 [eF w,.int .i64 (c:Int),.int .i64 (bt:Int)] (.bool (((ey w.ps).getD c 0).testBit o)):=by
 have aq:=bC;refine aR.bj ai Tryz.func182 C C fun s I=>?_
 have qX:=hw.iV;have mn:=hw.own _ (d5 ah);have pb:=L2 w hw c o aA ag;have ae:(w.owner.map bb)[bt]? = some (.int .i64 (o:Int)):=by simp [ah,bb]
 unfold eF eO cV bg at *;by_cases an:c<3
 ·have:((ey w.ps).getD c 0).testBit o=false:=by
   rw [ad0];intro h;have:=C9 an h;omega
  rw [this];have bd:decide ((c:Int)≥3)=false:=by simp;omega
  refine bZ ?_;refine aJ.split 9 C (fun h=>by rw [bd] at h;cases h) (fun _=>?_);refine hk ?_;exact bm I
 have bd:decide ((c:Int)≥3)=true:=by simp;omega
 refine bZ ?_;refine aJ.split 9 C (fun h=>?_) (fun h=>by rw [bd] at h;cases h);refine c3 ?_;exact bm I
theorem L3 (w:bx) (hw:fT w) (c:Nat) (aA:c<3+w.ps.length):aR d0 141 [eF w,.int .i64 (c:Int)] (bg (kH w ((ey w.ps).getD c 0))):=by
 have aq:=bC;refine aR.bj ai Tryz.func141 C C fun s I=>?_
 have gh:=hw.bl;obtain ⟨m,hm⟩:∃ m,m=(ey w.ps).getD c 0:=⟨_,rfl⟩;have cP:=fun bt o=>GN w hw c bt o aA
 rw [← hm] at cP ⊢;obtain ⟨xs,cY⟩:∃ xs:Nat→List af,∀ j,xs j=(((ae7 j).filter fun s=>m.testBit (w.owner.getD s 0).toNat).map fun (s:Nat)=>(s:Int)).map bb:=⟨_,fun _=>rfl⟩;have br:xs 0=[]:=by rw [cY];rfl
 have e7:∀ j,(xs j).length≤j:=fun j=>by
  rw [cY,f6,f6];exact ai' (ag6 _ _) ba
 unfold eF eO cV bg at *;refine gg ?_;refine ad.h2 I 3 1 0 fun I=>?_
 refine ad.b0 [1,2,9] C I (σ:=Nat×bM) (fun q=>[(10,.int .i64 (q.1:Int)),(5,.aC 1 (xs q.1) q.2)]) (fun q=>[(q.2,.row 3 1 (xs q.1).length)]) (fun q=>q.1≤w.owner.length) (fun q=>w.owner.length-q.1) (0,.nil) (g7 _) ⟨⟨_,rfl,aM⟩,⟨_,rfl,by rw [br];exact aS.nil gW⟩,trivial⟩ uR ?_;rintro ⟨j,own⟩ aK I;simp only at aK I ⊢;refine b2 ?_;refine ad.cond C (fun ar=>?_) (fun aV=>?_);rotate_left
 ·have aV:j=w.owner.length:=by simp at aV;omega
  subst aV;have he:xs w.owner.length=(kH w m).map bb:=by rw [cY];rfl
  rw [he];refine dB ?_;exact Fin.cp I C aS.bc
 have ar:j<w.owner.length:=by simpa using ar
 obtain ⟨o,ah⟩:∃ o,w.owner[j]? = some o:=⟨_,g6 ar⟩;obtain ⟨g1,g2⟩:=hw.own o (d5 ah);obtain ⟨q,rfl⟩:∃ q:Nat,o=q:=⟨o.toNat,by omega⟩;have au:=cY (j+1);rw [LQ w m _ ah,ac2,← cY] at au;have lp:=e7 j;have U:=cP j q ah;refine bZ ?_;refine ad.cond C (fun av=>?_) (fun av=>?_)
 ·have au:xs (j+1)=xs j++[.int .i64 (j:Int)]:=by rw [au];simp [av,bb]
  have dd:(xs (j+1)).length=(xs j).length+1:=by rw [au];simp
  refine jM ?_;refine aa.gf ai I C C C C C C C et C C C C C C C C a1 hc j2 ag (fun bR I=>?_);refine fu ?_;refine bn.mk (j+1,.own bR) I ar j1 tw ym
 ·have au:xs (j+1)=xs j:=by rw [au];simp [av]
  refine fR ?_;refine bn.mk (j+1,own) I ar j1 yk ym
structure qY (w:bx) (aU:List dD):Prop where
 iV:aU.length≤40
 each:∀ o∈aU,(3≤o.cls∧o.cls<3+(w.ps.length:Int))∧o.bl.length=(kH w (kI w o.cls)).length∧∀ v∈o.bl,fx aU.length v=true
theorem qY.of {w:bx} {aU:List dD} (h:ts w aU=true):qY w aU:=by
 unfold ts at h;rw [f7,g8,af3] at h;refine ⟨h.1,fun o ah=>?_⟩;have:=h.2 o ah;unfold tr rX at this;simp only [f7,g8,af3] at this;exact ⟨⟨by omega,by omega⟩,this.2.1,this.2.2⟩
theorem yw {n:Int} {v:Int×Int} (h:fx n v=true) (an:v.1=3):0≤v.2∧v.2<n:=by
 unfold fx at h;rw [an] at h;simp at h;omega
theorem Dq {n:Int} {v:Int×Int} (h:fx n v=true):v.1=1∨v.1=2∨v.1=3:=by
 unfold fx at h;grind
theorem GO (w:bx) (m s:Nat) (au:s<w.owner.length) (aq:m.testBit (w.owner.getD s 0).toNat=true):∃ k,(kH w m).findIdx? (· == (s:Int))=some k∧k<(kH w m).length:=by
 have gb:(s:Int)∈kH w m:=ad7.2 ⟨s,List.mem_filter.2 ⟨List.mem_range.2 au,aq⟩,rfl⟩;cases h:(kH w m).findIdx? (· == (s:Int)) with
 | none=>
  rw [List.findIdx?_eq_none_iff] at h;have:=h _ gb;simp at this
 | some k=>
  rw [ae8] at h;exact ⟨k,rfl,h.1⟩
def atR (r:Option (Int×Int)):af := .cu [eJ (r.getD (0,0)),.bool r.isSome]
theorem Vc (w:bx) (hw:fT w) (aU:List dD) (ah:qY w aU) (v:Int×Int) (av:fx aU.length v=true) (path:List Int) (aE:∀ s∈path,0≤s∧s<(w.owner.length:Int)) (hQ:path.length<bu) :
  aR d0 172 [gn w,gj aU,eJ v,bg path] (atR (mx w aU v path)):=by
 have aq:=bC;have o6:=hw.iV;have kD:=tq w.ps;refine aR.bj ai Tryz.func172 C C fun s I=>?_
 have dd:=fun c aA=>LR w hw c aA
 have mA:=fun c s m o aA hm hy au ah=>LH w (AM w) c s m o aA hm hy au ah
 unfold eJ bg;unfold gn e6 at *
 repeat (first|(refine zY ?_)|refine aa.jL I C C C C C C (fun b I=>?_)|refine aa.d' ai I C C C C C C C (fun cy I=>?_)|(refine zZ ?_))
 refine ad.b0 [0,1,8,12,13] C I (σ:=Nat×(Int×Int)) (fun j=>[(14,.int .i64 (j.1:Int)),(6,.ptr b 0)]) (fun j=>[(.own b,.box 122 [.int .i64 j.2.1,.int .i64 j.2.2]),(.own cy,.box 122 [.int .i64 0,.int .i64 0])]) (fun j=>j.1≤path.length∧mx w aU v path=mx w aU j.2 (path.drop j.1)∧fx aU.length j.2=true) (fun j=>path.length-j.1) (0,v) ⟨g7 _,rfl,av⟩ (ck C) aY ?_;rintro ⟨j,u⟩ ⟨aK,ak,hu⟩ I;simp only at aK ak hu I ⊢;refine b2 ?_;refine ad.cond C (fun ar=>?_) (fun aV=>?_);rotate_left
 ·have aV:path.length≤j:=by simpa using aV
  rw [ef aV,mx] at ak;rw [ak];refine cG I ?_;intro I;exact Fin.cp I (rT C C (bp.get a1 I) C C) aM
 have ar:j<path.length:=by simpa using ar
 obtain ⟨x,ay,c'⟩:=bV (f:=bb) ar;obtain ⟨g1,g2⟩:=aE x (d5 ay);obtain ⟨bt,rfl⟩:∃ bt:Nat,x=bt:=⟨x.toNat,by omega⟩;rw [drop_cons ay,mx] at ak;unfold bb at c';obtain ⟨jG,jq⟩:=u
 try simp only at ak
 refine cG I ?_;intro I;by_cases an:jG=3;rotate_left
 ·rw [f9 an] at ak
  refine aa.ds 21 C (by simpa using an) ?_;refine cG I ?_;intro I;rw [ak];exact Fin.cp I (rT C C (bp.get a1 I) C C) aM
 obtain ⟨cA,db⟩:=yw hu an;subst an;rw [d9 ba] at ak;simp only at cA db;obtain ⟨q,rfl⟩:∃ q:Nat,jq=q:=⟨jq.toNat,by omega⟩;obtain ⟨o,bq,qi⟩:=bV (f:=ho) (l:=aU) (j:=q) ag;have wa:aU.getD ((q:Int)).toNat default=o:=by rw [ac0,d6,bq];rfl
 obtain ⟨⟨k8,gN⟩,r6,r7⟩:=ah.each o (d5 bq);rw [wa] at ak;obtain ⟨cls,bl⟩:=o;simp only at k8 gN r6 r7 ak;obtain ⟨c,rfl⟩:∃ c:Nat,cls=c:=⟨cls.toNat,by omega⟩;obtain ⟨m,hm⟩:∃ m,(ey w.ps)[c]? = some m:=⟨_,g6 ag⟩;have m5:kI w (c:Int)=m:=by unfold kI;rw [ac0,d6,hm];rfl
 have hy:=ya o6 m (d5 hm);obtain ⟨jD,mn⟩:∃ jD,w.owner[bt]? = some jD:=⟨_,g6 ag⟩;obtain ⟨pc,bR⟩:=hw.own jD (d5 mn);obtain ⟨o,rfl⟩:∃ o:Nat,jD=o:=⟨jD.toNat,by omega⟩;have U:=mA c bt m o ag (yb hm) hy mn ag;have jY:(w.owner.getD ((bt:Int)).toNat 0).toNat=o:=by rw [ac0,d6,mn];simp
 have GP:(w.owner.getD bt 0).toNat=o:=by rw [d6,mn];simp
 rw [m5,jY] at ak;rw [m5] at r6;unfold ho at qi;refine aa.c2 21 C ba ?_;cases k9:m.testBit o with
 | false=>
  rw [k9,d9 ba] at ak;rw [k9] at U;refine cG I ?_;intro I;rw [ak];exact Fin.cp I (rT C C (bp.get a1 I) C C) aM
 | true=>
  rw [k9,f9 C] at ak;rw [k9] at U;have ae:=dd c ag;have Vd:(ey w.ps).getD c 0=m:=by rw [d6,hm];rfl
  rw [Vd] at ae;obtain ⟨k,kv,ik⟩:=GO w m bt ag (by rw [GP];exact k9);have hlen:(kH w m).length<bu:=by
   have:(kH w m).length≤w.owner.length:=by
    unfold kH;rw [f6];exact ai' (ag6 _ _) ba
   have:=hw.bl;omega
  have bd:=KO (kH w m) bt hlen;rw [kv] at bd;simp only at bd;obtain ⟨y,sQ,GQ⟩:=bV (f:=eJ) (l:=bl) (j:=k) ag;have wT:bl.getD k (0,0)=y:=by rw [d6,sQ];rfl
  rw [kv,ae1,wT] at ak;unfold eJ at GQ;unfold bg at ae bd;refine hl I ?_;intro I;exact bn.mk (j+1,y) I ⟨ar,ak,r7 y (d5 sQ)⟩ b' aY (by show path.length-(j+1)<path.length-j;omega)
theorem Ve (v:Int×Int) (n:Int):aR d0 142 [eJ v,.int .i64 n] (.bool (fx n v)):=by
 have aq:=bC;refine aR.bj ai Tryz.func142 C C fun s I=>?_
 unfold eJ
 repeat' (first|(with_reducible first|apply ad.seq|apply bY|apply fm|apply fg|apply gG|apply ad.ret|apply ad.skip|apply ad.block)|refine cT C ?_|refine ad.cB ?_|refine aa.nil ?_|refine cx C ?_|refine aa.skip C C C ?_|(fail_if_success refine aa.same true C ?_);(fail_if_success refine aa.same false C ?_);refine aa.gA C C (fun h=>?_) (fun h=>?_)|refine ad.cond C (fun h=>?_) (fun h=>?_))
 all_goals (refine Fin.cp I C (aS.of_eq (congrArg af.bool ?_));clear I;unfold fx km;grind)
theorem L4 (l:List (Int×Int)) (n:Int) (aB:l.length<bu):aR d0 98 [.aC 2 (l.map eJ) .bc,.int .i64 n] (.bool (l.all (fx n))):=by
 have aq:=bC;refine aR.bj ai Tryz.func98 C C fun s I=>?_
 have U:=fun v=>Ve v n
 refine gg ?_;refine ad.b0 [1,7,8] C I (σ:=Nat) (fun j=>[(9,.int .i64 (j:Int))]) (fun _=>[]) (fun j=>j≤l.length∧l.all (fx n)=(l.drop j).all (fx n)) (fun j=>l.length-j) 0 ⟨g7 _,rfl⟩ (ck C) aY ?_;rintro j ⟨aK,ak⟩ I
 try simp only at aK ak I ⊢
 refine b2 ?_;refine ad.cond C (fun ar=>?_) (fun aV=>?_);rotate_left
 ·have aV:j=l.length:=by simp at aV;omega
  rw [ef ag,ak0] at ak;rw [ak];refine dB ?_;exact bm I
 have ar:j<l.length:=by simpa using ar
 obtain ⟨v,av,kz⟩:=bV (f:=eJ) ar;rw [drop_cons av,ah1] at ak;have U:=U v;unfold eJ at kz U;cases aA:fx n v with
 | false=>
  rw [aA] at U ak;rw [ak];refine ea ?_;exact bm I
 | true=>
  rw [aA] at U ak;refine ea ?_;exact bn.mk (j+1) I ⟨ar,ak⟩ b' aY l3
theorem Vf (w:bx) (hw:fT w) (aU:List dD) (aB:aU.length<bu) (ah:∀ o∈aU,o.bl.length<bu):aR d0 96 [eF w,gj aU] (.bool (ts w aU)):=by
 have aq:=bC;refine aR.bj ai Tryz.func96 C C fun s I=>?_
 have qX:=hw.iV;have en:ts w aU=(decide (aU.length≤40)&&aU.all (tr w aU.length)):=rfl;have U:=fun c=>UY w c qX
 have ae:=fun c aA=>L3 w hw c aA
 have an:=fun l n h=>L4 l n h
 have df:((aU.map ho).length:Int)=aU.length:=by rw [f6]
 unfold eF eO cV bg at *;refine b2 ?_;refine ad.cond C (fun h=>?_) (fun h=>?_)
 ·rw [show decide (aU.length≤40)=false by simp at h ⊢;omega,f5] at en
  rw [en];refine gH ?_;exact bm I
 rw [show decide (aU.length≤40)=true by simp at h ⊢;omega,f0] at en;rw [en];clear en;refine jh ?_;refine ad.b0 [1,2,10,11] C I (σ:=Nat) (fun j=>[(12,.int .i64 (j:Int))]) (fun _=>[]) (fun j=>j≤aU.length∧aU.all (tr w aU.length)=(aU.drop j).all (tr w aU.length)) (fun j=>aU.length-j) 0 ⟨g7 _,rfl⟩ (ck C) aY ?_;rintro j ⟨aK,ak⟩ I
 try simp only at aK ak I ⊢
 refine b2 ?_;refine ad.cond C (fun ar=>?_) (fun aV=>?_);rotate_left
 ·have aV:j=aU.length:=by simp at aV;omega
  rw [ef ag,ak0] at ak;rw [ak];refine dB ?_;exact bm I
 have ar:j<aU.length:=by simpa using ar
 obtain ⟨o,av,kz⟩:=bV (f:=ho) ar;have tx:=ah o (d5 av);rw [drop_cons av,ah1] at ak;obtain ⟨c,bt⟩:=o;have qZ:tr w aU.length ⟨c,bt⟩=(rX w c&&(decide (bt.length=(kH w ((ey w.ps).getD c.toNat 0)).length)&&bt.all (fx aU.length))):=rfl;simp only at tx;rw [qZ] at ak;have U:=U c;rw [show (decide (c≥3)&&decide (c<3+(w.ps.length:Int)))=rX w c from rfl] at U;unfold ho at kz;simp only at kz;cases g1:rX w c with
 | false=>
  rw [g1] at U ak;rw [ak];refine ea ?_;exact bm I
 | true=>
 rw [g1] at U ak;unfold rX at g1;simp only [f7,g8] at g1;obtain ⟨cn,rfl⟩:∃ q:Nat,c=q:=⟨c.toNat,by omega⟩;rw [ac0] at ak;have ae:=ae cn ag;generalize kH w ((ey w.ps).getD cn 0)=yx at ae ak;have an:=an bt aU.length tx;refine ea ?_;by_cases g2:bt.length=yx.length;rotate_left
 ·rw [t8 g2] at ak
  rw [ak];refine aJ.split 32 C (fun _=>?_) (fun h=>absurd h cE);refine hk ?_;exact bm I
 rw [i6 g2] at ak;refine aJ.split 32 C (fun h=>absurd h cE) (fun _=>?_);rw [← df] at an;cases g3:bt.all (fx aU.length) with
 | false=>
  rw [g3] at ak;rw [df,g3,← df] at an;rw [ak];refine bZ ?_;exact bm I
 | true=>
  rw [g3] at ak;rw [df,g3,← df] at an;refine bZ ?_;exact bn.mk (j+1) I ⟨ar,ak⟩ b' aY (by show aU.length-(j+1)<aU.length-j;omega)
theorem Vg (w:bx) (aU:List dD) (ah:qY w aU) (v:Int×Int) (av:fx aU.length v=true):aR d0 145 [gj aU,eJ v] (.int .i64 (if v.1=3 then (aU.getD v.2.toNat default).cls else v.1)):=by
 have aq:=bC;refine aR.bj ai Tryz.func145 C C fun s I=>?_
 obtain ⟨jG,jq⟩:=v;unfold eJ;simp only;rcases Dq av with h|h|h
 ·simp only at h;subst h
  refine bB ?_;exact bm I
 ·simp only at h;subst h
  refine bB ?_;exact bm I
 ·simp only at h;subst h
  obtain ⟨cA,db⟩:=yw av rfl;simp only at cA db;obtain ⟨q,rfl⟩:∃ q:Nat,jq=q:=⟨jq.toNat,by omega⟩;obtain ⟨o,bq,qi⟩:=bV (f:=ho) (l:=aU) (j:=q) ag;rw [f9 C,ac0,show aU.getD q default=o by rw [d6,bq];rfl];unfold ho at qi;refine bB ?_;exact bm I
theorem Vh (w:bx) (hw:fT w) (aU:List dD) (ah:qY w aU) (v:Int×Int) (av:fx aU.length v=true) (path:List Int) (aE:∀ s∈path,0≤s∧s<(w.owner.length:Int)) (hQ:path.length<bu) :
  aR d0 143 [eF w,gj aU,eJ v,bg path] (atR (mx w aU v path)):=by
 have aq:=bC;have o6:=hw.iV;refine aR.bj ai Tryz.func143 C C fun s I=>?_
 have dd:=fun c aA=>L3 w hw c aA
 have mA:=fun c bt o aA h=>GN w hw c bt o aA h
 unfold eJ;unfold eF eO cV bg at *
 repeat (first|(refine zY ?_)|refine aa.jL I C C C C C C (fun b I=>?_)|refine aa.d' ai I C C C C C C C (fun cy I=>?_)|(refine zZ ?_))
 refine ad.mo I 4 _ C (.there (.there .here)) (fun I=>?_);refine ad.b0 [1,4,8,15,16] C I (σ:=Nat×(Int×Int)) (fun j=>[(17,.int .i64 (j.1:Int)),(6,.ptr b 0)]) (fun j=>[(.own b,.box 122 [.int .i64 j.2.1,.int .i64 j.2.2]),(.own cy,.box 122 [.int .i64 0,.int .i64 0])]) (fun j=>j.1≤path.length∧mx w aU v path=mx w aU j.2 (path.drop j.1)∧fx aU.length j.2=true) (fun j=>path.length-j.1) (0,v) ⟨g7 _,rfl,av⟩ (ck C) aY ?_;rintro ⟨j,u⟩ ⟨aK,ak,hu⟩ I;simp only at aK ak hu I ⊢;refine b2 ?_;refine ad.cond C (fun ar=>?_) (fun aV=>?_);rotate_left
 ·have aV:path.length≤j:=by simpa using aV
  rw [ef aV,mx] at ak;rw [ak];refine cG I ?_;intro I;exact Fin.cp I (rT C C (bp.get a1 I) C C) aM
 have ar:j<path.length:=by simpa using ar
 obtain ⟨x,ay,c'⟩:=bV (f:=bb) ar;obtain ⟨g1,g2⟩:=aE x (d5 ay);obtain ⟨bt,rfl⟩:∃ bt:Nat,x=bt:=⟨x.toNat,by omega⟩;rw [drop_cons ay,mx] at ak;unfold bb at c';obtain ⟨jG,jq⟩:=u
 try simp only at ak
 refine dC ?_;refine ad.qP I b .here ai mixed C ?_;refine c3 ?_;by_cases an:jG=3;rotate_left
 ·rw [f9 an] at ak
  refine aJ.split 24 C (fun _=>?_) (fun h=>absurd h (by simpa using an));refine cG I ?_;intro I;rw [ak];exact Fin.cp I (rT C C (bp.get a1 I) C C) aM
 obtain ⟨cA,db⟩:=yw hu an;subst an;rw [d9 ba] at ak;simp only at cA db;obtain ⟨q,rfl⟩:∃ q:Nat,jq=q:=⟨jq.toNat,by omega⟩;obtain ⟨o,bq,qi⟩:=bV (f:=ho) (l:=aU) (j:=q) ag;have wa:aU.getD ((q:Int)).toNat default=o:=by rw [ac0,d6,bq];rfl
 obtain ⟨⟨k8,gN⟩,r6,r7⟩:=ah.each o (d5 bq);rw [wa] at ak;obtain ⟨cls,bl⟩:=o;simp only at k8 gN r6 r7 ak;obtain ⟨c,rfl⟩:∃ c:Nat,cls=c:=⟨cls.toNat,by omega⟩;have m5:kI w (c:Int)=(ey w.ps).getD c 0:=by unfold kI;rw [ac0]
 obtain ⟨jD,mn⟩:∃ jD,w.owner[bt]? = some jD:=⟨_,g6 ag⟩;obtain ⟨pc,bR⟩:=hw.own jD (d5 mn);obtain ⟨o,rfl⟩:∃ o:Nat,jD=o:=⟨jD.toNat,by omega⟩;have U:=mA c bt o ag mn;have jY:(w.owner.getD ((bt:Int)).toNat 0).toNat=o:=by rw [ac0,d6,mn];simp
 have GP:(w.owner.getD bt 0).toNat=o:=by rw [d6,mn];simp
 rw [m5,jY] at ak;rw [m5] at r6;have ae:=dd c ag;have wU:=GO w ((ey w.ps).getD c 0) bt ag;rw [GP] at wU;have hlen:(kH w ((ey w.ps).getD c 0)).length≤40:=by
  have bD:=hw.bl;unfold kH;rw [f6];exact ai' (ag6 _ _) cE
 generalize kH w ((ey w.ps).getD c 0)=yx at *;unfold ho at qi;refine aJ.split 24 C (fun h=>absurd h ba) (fun _=>?_);cases k9:((ey w.ps).getD c 0).testBit o with
 | false=>
  rw [k9,d9 ba] at ak;rw [k9] at U;refine cG I ?_;intro I;rw [ak];exact Fin.cp I (rT C C (bp.get a1 I) C C) aM
 | true=>
  rw [k9,f9 C] at ak;rw [k9] at U;obtain ⟨k,kv,ik⟩:=wU k9;obtain ⟨y,sQ,GQ⟩:=bV (f:=eJ) (l:=bl) (j:=k) ag;have wT:bl.getD k (0,0)=y:=by rw [d6,sQ];rfl
  rw [kv,ae1,wT] at ak;unfold eJ at GQ;refine c3 ?_;refine ad.qP I b .here ai mixed C ?_;refine bZ ?_;rw [ae8] at kv;obtain ⟨f1,f2,f3⟩:=kv;refine ad.b0 [1,4,8,11,15,16,17,45,46] C I (σ:=Nat) (fun i=>[(47,.int .i64 (i:Int)),(6,.ptr b 0)]) (fun _=>[(.own b,.box 122 [.int .i64 3,.int .i64 (q:Int)]),(.own cy,.box 122 [.int .i64 0,.int .i64 0])]) (fun i=>i≤k) (fun i=>yx.length-i) 0 (g7 _) (ck C) (aH.all _) ?_;rintro i aQ I
  try simp only at aQ I ⊢
  refine b2 ?_;refine ad.cond C (fun cC=>?_) (fun dm=>by simp at dm;omega);obtain ⟨z,bO,qQ⟩:=bV (f:=bb) (l:=yx) (j:=i) ag;unfold bb at qQ;refine bB ?_;refine ad.cond C (fun he=>?_) (fun az=>?_)
  ·have he:z=(bt:Int):=by simpa using he
   have h0:i=k:=by
    rcases am0 i k with h|h
    ·have:=f3 i h
     rw [(ac3.1 bO).2,he] at this;simp at this
    ·omega
   subst h0;refine hl I ?_;intro I;exact bn.mk (j+1,y) I ⟨ar,ak,r7 y (d5 sQ)⟩ b' aY (by show path.length-(j+1)<path.length-j;omega)
  ·have az:z≠(bt:Int):=by simpa using az
   have h0:i<k:=by
    rcases am0 i k with h|h
    ·exact h
    ·have h0:i=k:=by omega
     subst h0;rw [(ac3.1 bO).2] at f2;exact absurd (by simpa using f2) az
   refine fR ?_;exact bn.mk (i+1) I h0 b' (aH.all _) (by show yx.length-(i+1)<yx.length-i;omega)
theorem L5 {α:Type}:∀ {l:List α},l.length=2→∃ a b,l=[a,b]
 | [a,b],_=>⟨a,b,rfl⟩
structure wV (w:bx) (f:aj):Prop where
 arg:0≤f.arg∧f.arg<3
 path:f.path.length≤2
 bl:∀ s∈f.path,0≤s∧s<(w.owner.length:Int)
 cls:f.op=2→0≤f.cls∧f.cls<3+(w.ps.length:Int)
theorem wV.of {w:bx} {f:aj} (h:h3 w f=true) (aB:f.cU=true):wV w f:=by
 simp only [h3,aB,if_true,f7,g8,af3] at h;obtain ⟨U,ae,an,bd,bD,fk,ij,p1⟩:=h;refine ⟨⟨by omega,bD⟩,fk,fun s au=>by have:=ij s au;simpa using this,fun ae=>?_⟩;rw [f9 ae] at p1;simp only [f7,g8] at p1;omega
theorem yy {w:bx} {f:aj} (h:h3 w f=true):(f.op=1∧f.kids=[])∨(f.cU=true∧f.kids=[]∧(f.op=2∨f.op=3∨f.op=4))∨(f.op=5∧∃ x,f.kids=[x])∨((f.op=6∨f.op=7)∧∃ x y,f.kids=[x,y]):=by
 have br:=h;simp only [h3,f7,g8] at h;obtain ⟨U,ae,an,bd⟩:=h;have aA:f.op=1∨(f.op=2∨f.op=3∨f.op=4)∨f.op=5∨f.op=6∨f.op=7:=by omega
 rcases aA with h|h|h|h|h
 ·left
  refine ⟨h,af5 ?_⟩;rw [an,h];rfl
 ·right;left
  refine ⟨?_,af5 ?_,h⟩
  ·unfold aj.cU;simp;omega
  ·rw [an];rcases h with h|h|h<;>rw [h]<;>rfl
 ·right;right;left
  refine ⟨h,List.length_eq_one_iff.1 ?_⟩;rw [an,h];rfl
 ·right;right;right
  refine ⟨.inl h,?_⟩;obtain ⟨a,b,hz⟩:=L5 (show f.kids.length=2 by rw [an,h];rfl);exact ⟨a,b,hz⟩
 ·right;right;right
  refine ⟨.inr h,?_⟩;obtain ⟨a,b,hz⟩:=L5 (show f.kids.length=2 by rw [an,h];rfl);exact ⟨a,b,hz⟩
theorem GR {w:bx} {aU:List dD} (ah:qY w aU):∀ (path:List Int) (v u:Int×Int),(∀ s∈path,0≤s∧s<(w.owner.length:Int))→fx aU.length v=true→mx w aU v path=some u→fx aU.length u=true
  | [],v,u,_,av,h=>by rw [mx] at h;cases h;exact av
  | s::r,v,u,aE,av,h=>by
    rw [mx] at h
    try simp only at h
    split at h
    · cases h
    · rename_i an
      have an:v.1=3:=by omega
      obtain ⟨cA,db⟩:=yw av an;split at h
      · rename_i aq
        have au:=aE s i7;obtain ⟨bt,rfl⟩:∃ bt:Nat,s=bt:=⟨s.toNat,by omega⟩;have Vi:aU[v.2.toNat]? = some (aU.getD v.2.toNat default):=by
          rw [d6,g6 ag];rfl
        have mM:=ah.each _ (d5 Vi);rw [ac0] at aq;obtain ⟨k,kv,ik⟩:=GO w _ bt ag aq;rw [kv,ae1] at h;refine GR ah r _ u (fun s au=>aE s (i5 _ au)) ?_ h;rw [d6,g6 (by rw [mM.2.1];exact ik),ae1];exact mM.2.2 _ (aj6 _)
      · cases h
theorem Vj (w:bx) (hw:fT w) (aU:List dD) (ah:qY w aU) (args:List (Int×Int)) (a8:∀ v∈args,fx aU.length v=true) (k3:args.length≤3):∀ (n:Nat) (f:aj),f.size≤n→n<bu→gi w f=true→iW f≤args.length →
    aR d0 125 [gn w,f.bJ,gj aU,jC args] (.bool (oa w aU args f)):=by
  have aq:=bC;intro n
  induction n with
  | zero=>intro x h;have:=x.size_eq;omega
  | succ n a6=>
    intro f az iP aw dn;have o6:=hw.iV;have gh:=ah.iV;have kD:=tq w.ps;have iv:=f.size_eq;have lE:=KF w aU args f;rw [Ag] at dn;rw [m0,f7] at aw;obtain ⟨oi,kq⟩:=aw;refine aR.bj ai Tryz.func125 C C fun s I=>?_
    rw [aj.bW];rcases yy oi with ⟨U,ae⟩|⟨aB,ae,U⟩|⟨U,x,ae⟩|⟨U,x,y,ae⟩
    · rw [lE,U]
      unfold aj.cells;rw [U];refine bB ?_;exact bm I
    · have hF:=wV.of oi aB
      have hQ:=hF.path;have cX:=fun v av=>Vc w hw aU ah v av f.path hF.bl ag
      rw [aB,ae] at dn;simp only [if_true,ia] at dn;obtain ⟨q,bq⟩:∃ q:Nat,f.arg=q:=⟨f.arg.toNat,by have:=hF.arg;omega⟩;obtain ⟨v,av,kz⟩:=bV (f:=eJ) (l:=args) (j:=q) ag;have tC:=a8 v (d5 av);have AO:args.getD f.arg.toNat (0,0)=v:=by rw [bq,ac0,d6,av];rfl
      have cX:=cX v tC;have AP:oa w aU args f=pR w aU args f:=by
        rw [lE,d9 ag,d9 ag,d9 ag,d9 ag]
      rw [AP];have c7:(f.op==1)=false:=by simp;omega
      have dh:(f.op==5)=false:=by simp;omega
      have e3:(f.op==6)=false:=by simp;omega
      have pE:(f.op==7)=false:=by simp;omega
      have mA:=fun m o hm aA=>yo m o hm aA
      unfold aj.cells;rw [bq];unfold eJ at kz;unfold eJ bg at cX;unfold bb at cX;unfold gn e6 at *;cases hu:mx w aU v f.path with
      | none=>
        have hle:pR w aU args f=false:=by unfold pR;rw [AO,hu]
        rw [hu] at cX;rw [hle];unfold atR eJ at cX;simp only [ae1,aq8,aq0,an0] at cX;refine gg ?_;refine ad.cond C (fun h=>by rw [c7] at h;cases h) (fun _=>?_);refine b2 ?_;refine ad.cond C (fun h=>by rw [dh] at h;cases h) (fun _=>?_);refine b2 ?_;refine ad.cond C (fun h=>by rw [e3] at h;cases h) (fun _=>?_);refine b2 ?_;refine ad.cond C (fun h=>by rw [pE] at h;cases h) (fun _=>?_)
        repeat (first|(refine Sy ?_)|refine aJ.yh ai I C C C C C C C C (fun cy I=>?_)|(refine CS I ?_;clear I;intro I))
        exact bm I
      | some u=>
        have j3:=GR ah f.path v u hF.bl tC hu;obtain ⟨jG,jq⟩:=u
        have hle:pR w aU args f=(if f.op=2 then (if jG=3 then (kI w (aU.getD jq.toNat default).cls).testBit f.cls.toNat else (kI w jG).testBit f.cls.toNat)
    else decide (jG=1)&&((decide (jq=f.n)==decide (f.op=4))&&decide (jq≤f.n))):=by unfold pR;rw [AO,hu]
        rw [hu] at cX;rw [hle];unfold atR eJ at cX;simp only [ae1,aq8,aq0,an0] at cX;refine gg ?_;refine ad.cond C (fun h=>by rw [c7] at h;cases h) (fun _=>?_);refine b2 ?_;refine ad.cond C (fun h=>by rw [dh] at h;cases h) (fun _=>?_);refine b2 ?_;refine ad.cond C (fun h=>by rw [e3] at h;cases h) (fun _=>?_);refine b2 ?_;refine ad.cond C (fun h=>by rw [pE] at h;cases h) (fun _=>?_)
        repeat (first|(refine Sz ?_)|refine aJ.yh ai I C C C C C C C C (fun cy I=>?_)|(refine CS I ?_;clear I;intro I))
        refine ad.cond C (fun h=>?_) (fun h=>?_)
        · have bD:f.op≠2:=by simpa using h
          rw [d9 bD]
          repeat' (first|(with_reducible first|apply ad.seq|apply bY|apply fm|apply gG|apply ad.ret)|refine ad.cB ?_|refine aa.nil ?_|refine cx C ?_|refine aa.skip C C C ?_|refine aa.eC ai I C C C C C C te b3 ?_|(fail_if_success refine aa.same true C ?_);(fail_if_success refine aa.same false C ?_);refine aa.gA C C (fun h=>?_) (fun h=>?_))
          all_goals (refine Fin.cp I C (aS.of_eq (congrArg af.bool ?_));clear I cX a6 mA hle AP lE hu j3;grind)
        have bD:f.op=2:=by simpa using h
        rw [f9 bD];obtain ⟨cA,db⟩:=hF.cls bD;obtain ⟨dU,ct⟩:∃ dU:Nat,f.cls=dU:=⟨f.cls.toNat,by omega⟩;rw [ct,ac0];by_cases an:jG=3
        · subst an
          obtain ⟨k8,gN⟩:=yw j3 rfl;simp only at k8 gN;obtain ⟨p,rfl⟩:∃ p:Nat,jq=p:=⟨jq.toNat,by omega⟩;obtain ⟨o,aE,e9⟩:=bV (f:=ho) (l:=aU) (j:=p) ag;obtain ⟨⟨pc,bR⟩,-,-⟩:=ah.each o (d5 aE);have wa:aU.getD ((p:Int)).toNat default=o:=by rw [ac0,d6,aE];rfl
          obtain ⟨c,wW⟩:∃ c:Nat,o.cls=c:=⟨o.cls.toNat,by omega⟩;obtain ⟨m,hm⟩:∃ m,(ey w.ps)[c]? = some m:=⟨_,g6 ag⟩;have m5:kI w (c:Int)=m:=by unfold kI;rw [ac0,d6,hm];rfl
          have hy:=ya o6 m (d5 hm);have vK:=mA m dU hy ag;rw [f9 C,wa,wW,m5];unfold ho at e9;rw [wW] at e9;have kg:=AK (w:=w) (yb hm);refine tf I ?_;intro I;refine aJ.l0 ai c C C C C C C C C C C ag ?_;refine aJ.Aw ai C C C C C C C (by simpa using kg) ?_;refine c3 ?_;exact bm I
        · obtain ⟨c,wW⟩:∃ c:Nat,jG=c:=⟨jG.toNat,by have:=Dq j3;simp only at this;omega⟩
          subst wW;have abJ:c<3:=by have:=Dq j3;simp only at this;omega
          obtain ⟨m,hm⟩:∃ m,(ey w.ps)[c]? = some m:=⟨_,g6 ag⟩;have m5:kI w (c:Int)=m:=by unfold kI;rw [ac0,d6,hm];rfl
          have hy:=ya o6 m (d5 hm);have vK:=mA m dU hy ag;have kg:=AK (w:=w) (yb hm);rw [d9 an,m5];have r8:((c:Int)==3)=false:=by simpa using an
          refine cG I ?_;intro I;refine ad.cond C (fun h=>by rw [r8] at h;cases h) (fun _=>?_);refine tf I ?_;intro I;refine aJ.l0 ai c C C C C C C C C C C ag ?_;refine aJ.Aw ai C C C C C C C (by simpa using kg) ?_;refine c3 ?_;exact bm I
    · have ab:=aj.hx (l:=f.kids) (x:=x) jk
      have hE:=(uJ f.kids (if f.cU then f.arg+1 else 0)).2 x jk;have i1:=a6 x ag ag (jy kq jk) ag;rw [lE,U,ae,wF _ _ _ 0 [x] x C];have cb:([x].map aj.bJ)[0]? = some (.agg x.cells):=by rw [← aj.bW];rfl
      rw [aj.bW] at i1;unfold aj.cells;rw [U,ae];unfold gn e6 at *;refine bZ ?_;exact bm I
    · have ab:=aj.hx (l:=f.kids) (x:=x) jk
      have hE:=(uJ f.kids (if f.cU then f.arg+1 else 0)).2 x jk;have i1:=a6 x ag ag (jy kq jk) ag;have ay:=aj.hx (l:=f.kids) (x:=y) o4;have c8:=(uJ f.kids (if f.cU then f.arg+1 else 0)).2 y o4;have i2:=a6 y ag ag (jy kq o4) ag;have cb:([x,y].map aj.bJ)[0]? = some (.agg x.cells):=by rw [← aj.bW];rfl
      have b1:([x,y].map aj.bJ)[1]? = some (.agg y.cells):=by rw [← aj.bW];rfl
      rw [aj.bW] at i1 i2;unfold gn e6 at *;rcases U with U|U
      all_goals
        rw [lE,U,ae,wF _ _ _ 0 [x,y] x C,wF _ _ _ 1 [x,y] y C];unfold aj.cells;rw [U,ae];refine bZ ?_;cases q0:oa w aU args x with
        | true=>
          rw [q0] at i1;refine c3 ?_;exact bm I
        | false=>
          rw [q0] at i1;refine c3 ?_;exact bm I
theorem Vk (w:bx) (hw:fT w) (aU:List dD) (ah:qY w aU) (args:List (Int×Int)) (a8:∀ v∈args,fx aU.length v=true) (k3:args.length≤3):∀ (n:Nat) (f:aj),f.size≤n→n<bu→gi w f=true→iW f≤args.length →
    aR d0 99 [eF w,f.bJ,gj aU,jC args] (.bool (oa w aU args f)):=by
  have aq:=bC;intro n
  induction n with
  | zero=>intro x h;have:=x.size_eq;omega
  | succ n a6=>
    intro f az iP aw dn;have o6:=hw.iV;have gh:=ah.iV;have iv:=f.size_eq;have lE:=KF w aU args f;rw [Ag] at dn;rw [m0,f7] at aw;obtain ⟨oi,kq⟩:=aw;refine aR.bj ai Tryz.func99 C C fun s I=>?_
    rw [aj.bW];rcases yy oi with ⟨U,ae⟩|⟨aB,ae,U⟩|⟨U,x,ae⟩|⟨U,x,y,ae⟩
    · rw [lE,U]
      unfold aj.cells;rw [U];refine bB ?_;exact bm I
    · have hF:=wV.of oi aB
      have hQ:=hF.path;have cX:=fun v av=>Vh w hw aU ah v av f.path hF.bl ag
      rw [aB,ae] at dn;simp only [if_true,ia] at dn;obtain ⟨q,bq⟩:∃ q:Nat,f.arg=q:=⟨f.arg.toNat,by have:=hF.arg;omega⟩;obtain ⟨v,av,kz⟩:=bV (f:=eJ) (l:=args) (j:=q) ag;have tC:=a8 v (d5 av);have AO:args.getD f.arg.toNat (0,0)=v:=by rw [bq,ac0,d6,av];rfl
      have cX:=cX v tC;have AP:oa w aU args f=pR w aU args f:=by
        rw [lE,d9 ag,d9 ag,d9 ag,d9 ag]
      rw [AP];clear AP lE a6;have ct:=hF.cls;unfold aj.cells;rw [bq];cases hu:mx w aU v f.path with
      | none=>
        have hle:pR w aU args f=false:=by unfold pR;rw [AO,hu]
        rw [hu] at cX;rw [hle];unfold eJ at kz;unfold atR eJ at cX;unfold eF eO cV bg at *;simp only [ae1,aq8,aq0,an0] at cX;rcases U with h|h|h
        all_goals
          rw [h]
          repeat (first|(refine SA ?_)|refine aJ.yh ai I C C C C C C C C (fun cy I=>?_)|(refine CS I ?_;clear I;intro I))
          exact bm I
      | some u=>
        have j3:=GR ah f.path v u hF.bl tC hu;obtain ⟨jG,jq⟩:=u
        have hle:pR w aU args f=(if f.op=2 then (if jG=3 then (kI w (aU.getD jq.toNat default).cls).testBit f.cls.toNat else (kI w jG).testBit f.cls.toNat)
    else decide (jG=1)&&((decide (jq=f.n)==decide (f.op=4))&&decide (jq≤f.n))):=by unfold pR;rw [AO,hu]
        have r9:=Vg w aU ah (jG,jq) j3;have pb:=fun a b U ae=>L2 w hw a b U ae
        rw [hu] at cX;rw [hle];unfold eJ at kz r9;unfold atR eJ at cX;unfold eF eO cV bg at *;simp only [ae1,aq8,aq0,an0] at cX r9;rcases U with h|h|h
        · rw [h,f9 C]
          obtain ⟨cA,db⟩:=ct h;obtain ⟨dU,ct⟩:∃ dU:Nat,f.cls=dU:=⟨f.cls.toNat,by omega⟩;rw [ct,ac0];rw [ct] at db;obtain ⟨c,aA,tD⟩:∃ c:Nat,(if jG=3 then (aU.getD jq.toNat default).cls else jG)=c∧c<3+w.ps.length:=by
            by_cases an:jG=3
            · obtain ⟨k8,gN⟩:=yw j3 an
              simp only at k8 gN
              have:=ah.each (aU.getD jq.toNat default) (by
                rw [d6,g6 (show jq.toNat<aU.length by omega)]
                exact aj6 _)
              rw [f9 an];exact ⟨(aU.getD jq.toNat default).cls.toNat,by omega,by omega⟩
            · have:=Dq j3
              simp only at this;rw [d9 an];exact ⟨jG.toNat,by omega,by omega⟩
          have Ao:(if jG=3 then (kI w (aU.getD jq.toNat default).cls).testBit dU else (kI w jG).testBit dU)=((ey w.ps).getD c 0).testBit dU:=by
            by_cases an:jG=3
            · rw [f9 an] at aA ⊢
              rw [aA];unfold kI;rw [ac0]
            · rw [d9 an] at aA ⊢
              rw [aA];unfold kI;rw [ac0]
          rw [Ao];have pb:=pb c dU tD ag;rw [aA] at r9;refine bB ?_;refine ad.nB ai mixed C ?_
          repeat (first|(refine SB ?_)|refine aJ.yh ai I C C C C C C C C (fun cy I=>?_)|(refine CS I ?_;clear I;intro I))
          refine ad.qP I cy .here ai mixed C ?_;refine c3 ?_;exact bm I
        · rw [h,d9 dW]
          refine bB ?_;refine ad.nB ai mixed C ?_
          repeat' (first|(with_reducible first|apply ad.seq|apply bY|apply fm|apply gG|apply ad.ret|apply ad.block)|refine cT C ?_|refine ad.cB ?_|refine aa.nil ?_|refine ad.e8 C ?_|refine ad.gr C ?_|refine cx C ?_|refine aa.skip C C C ?_|refine aa.eC ai I C C C C C C te b3 ?_|refine aJ.nil ?_|refine aJ.step C ?_|refine aJ.idx _ C C C C C C C C C C C ch C ?_|refine aJ.dQ C C C C C ch ?_|refine aJ.yh ai I C C C C C C C C (fun cy I=>?_)|refine aJ.storeT ai I C C C C C C C C C C te b3 (fun I=>?_)|(fail_if_success refine aa.same true C ?_);(fail_if_success refine aa.same false C ?_);refine aa.gA C C (fun h=>?_) (fun h=>?_))
          all_goals (refine Fin.cp I C (aS.of_eq (congrArg af.bool ?_));clear I cX r9 pb hle hu j3;grind)
        · rw [h,d9 dW]
          refine bB ?_;refine ad.nB ai mixed C ?_
          repeat' (first|(with_reducible first|apply ad.seq|apply bY|apply fg|apply ad.ret|apply ad.skip|apply ad.block)|refine cT C ?_|refine ad.cB ?_|refine aa.nil ?_|refine ad.gr C ?_|refine cx C ?_|refine aa.skip C C C ?_|refine aa.eC ai I C C C C C C te b3 ?_|refine aJ.nil ?_|refine aJ.step C ?_|refine aJ.idx _ C C C C C C C C C C C ch C ?_|refine aJ.dQ C C C C C ch ?_|refine aJ.yh ai I C C C C C C C C (fun cy I=>?_)|refine aJ.storeT ai I C C C C C C C C C C te b3 (fun I=>?_)|(fail_if_success refine aa.same true C ?_);(fail_if_success refine aa.same false C ?_);refine aa.gA C C (fun h=>?_) (fun h=>?_))
          all_goals (refine Fin.cp I C (aS.of_eq (congrArg af.bool ?_));clear I cX r9 pb hle hu j3;grind)
    · have ab:=aj.hx (l:=f.kids) (x:=x) jk
      have hE:=(uJ f.kids (if f.cU then f.arg+1 else 0)).2 x jk;have i1:=a6 x ag ag (jy kq jk) ag;have cb:([x].map aj.bJ)[0]? = some (.agg x.cells):=by rw [← aj.bW];rfl
      rw [U,d9 ag,f9 C,ae,wF w aU args 0 [x] x C] at lE;rw [lE];rw [aj.bW] at i1;unfold aj.cells at cb i1 ⊢;unfold eF eO cV bg at *;rw [U,ae];refine bZ ?_;exact bm I
    · have ab:=aj.hx (l:=f.kids) (x:=x) jk
      have ay:=aj.hx (l:=f.kids) (x:=y) o4;have hE:=(uJ f.kids (if f.cU then f.arg+1 else 0)).2 x jk;have c8:=(uJ f.kids (if f.cU then f.arg+1 else 0)).2 y o4;have i1:=a6 x ag ag (jy kq jk) ag;have i2:=a6 y ag ag (jy kq o4) ag;have cb:([x,y].map aj.bJ)[0]? = some (.agg x.cells):=by rw [← aj.bW];rfl
      have b1:([x,y].map aj.bJ)[1]? = some (.agg y.cells):=by rw [← aj.bW];rfl
      rw [ae,wF w aU args 0 [x,y] x C,wF w aU args 1 [x,y] y C] at lE;rw [aj.bW] at i1 i2;unfold aj.cells at cb b1 i1 i2 ⊢;unfold eF eO cV bg at *;rw [ae];rcases U with U|U
      all_goals
        rw [U] at lE ⊢;cases q0:oa w aU args x with
        | true=>
          rw [q0] at i1 lE;simp at lE;rw [lE];refine bZ ?_;exact bm I
        | false=>
          rw [q0] at i1 lE;simp at lE;rw [lE];refine bZ ?_;exact bm I
end Go.Proofs.YtnafpeohfbglmaaGreat
namespace Go.dv
theorem GS {w:bx} (hw:fT w):∀ (m:Nat) (f:Nat→Bool) (k:Nat),3+m≤k→m≤w.ps.length→hn w.ps m f k=f k
  | 0,f,k,_,_=>rfl
  | m+1,f,k,aD,hm=>by
    obtain ⟨l,aB⟩:∃ l,w.ps[m]? = some l:=⟨_,g6 ag⟩;rw [hn,GS hw m _ k ag ag,d6,aB,ae1];have:l.contains (k:Int)=false:=by
      rw [ad0];intro h;have:=wG hw aB (af7.1 h);omega
    rw [this,ai2,ak4]
theorem Dr (ps:List (List Int)):∀ (m:Nat) (f g:Nat→Bool),(∀ k,f k=g k)→∀ k,hn ps m f k=hn ps m g k
  | 0,f,g,h,k=>h k
  | m+1,f,g,h,k=>by
    rw [hn,hn];exact Dr ps m _ _ (fun k=>by rw [h,h]) k
theorem GU {cs:List fK} {w:bx} (hw:fT w) (px:w.ps=cs.map fK.parents):∀ (m:Nat) (up out:List Int) (s:Int),m≤cs.length→(s∈oh cs m up out↔s∈out∨∃ j,j<m∧hn w.ps m (fun k=>up.contains (k:Int)) (3+j)=true∧s∈(cs.getD j default).bl)
  | 0,up,out,s,_=>by
    rw [oh];constructor
    · exact .inl
    · rintro (h|⟨j,h,_⟩)
      · exact h
      · omega
  | m+1,up,out,s,hm=>by
    have aB:m<cs.length:=by omega
    have hQ:w.ps.length=cs.length:=by rw [px,f6]
    have Vl:w.ps.getD m []=(cs.getD m default).parents:=by
      rw [px,d6,d6,ad2,g6 aB];rfl
    rw [oh];have eV:((m:Int)+3)=((3+m:Nat):Int):=by omega
    rw [eV];cases hu:up.contains ((3+m:Nat):Int) with
    | true=>
      rw [f9 C,GU hw px m _ _ s ag];have aA:∀ k,hn w.ps m (fun k=>(up++(cs.getD m default).parents).contains (k:Int)) k=hn w.ps (m+1) (fun k=>up.contains (k:Int)) k:=fun k=>by
        rw [hn];refine Dr _ _ _ _ (fun k=>?_) k;rw [al0,hu,f0,Vl]
      simp only [aA,ac9];constructor
      · rintro ((h|h)|⟨j,U,ae,an⟩)
        · exact .inl h
        · exact .inr ⟨m,by omega,by rw [hn,GS hw m _ _ (i0 _) ag,hu,ai4],h⟩
        · exact .inr ⟨j,by omega,ae,an⟩
      · rintro (h|⟨j,U,ae,an⟩)
        · exact .inl (.inl h)
        · rcases af1.1 U with U|rfl
          · exact .inr ⟨j,U,ae,an⟩
          · exact .inl (.inr an)
    | false=>
      rw [d9 ba,GU hw px m _ _ s ag];have aA:∀ k,hn w.ps (m+1) (fun k=>up.contains (k:Int)) k=hn w.ps m (fun k=>up.contains (k:Int)) k:=fun k=>by
        rw [hn];exact Dr _ _ _ _ (fun k=>by rw [hu,f5,ak4]) k
      simp only [aA];constructor
      · rintro (h|⟨j,U,ae,an⟩)
        · exact .inl h
        · exact .inr ⟨j,by omega,ae,an⟩
      · rintro (h|⟨j,U,ae,an⟩)
        · exact .inl h
        · rcases af1.1 U with U|rfl
          · exact .inr ⟨j,U,ae,an⟩
          · rw [GS hw _ _ _ (i0 _) ag,hu] at ae
            cases ae
theorem L6:∀ {l:List Int} {n m:Int},nH n l=some m→m=n+l.length∧∀ s,s∈l↔n≤s∧s<n+l.length
  | [],n,m,h=>by rw [nH] at h;cases h;exact ⟨by simp,fun s=>by simp⟩
  | x::r,n,m,h=>by
    rw [nH] at h;split at h
    · rename_i ab
      subst ab;obtain ⟨U,ae⟩:=L6 h;refine ⟨by rw [i8];omega,fun s=>?_⟩;rw [ad1,ae,i8];omega
    · cases h
theorem GV:∀ {l:List fK} {i:Nat} {n m:Int},lC n l=some m→m=n+(fF i l).length∧∀ (j:Nat) (c:fK),l[j]? = some c→∀ s:Int,s∈c.bl↔n≤s∧(fF i l)[(s-n).toNat]? = some ((i:Int)+j+3)
  | [],i,n,m,h=>by rw [lC] at h;cases h;exact ⟨by simp [fF],fun j c h=>by simp at h⟩
  | x::r,i,n,m,h=>by
    rw [lC] at h;split at h
    · cases aD:nH n x.bl with
      | none=>rw [aD] at h;cases h
      | some k=>
        rw [aD,Option.bind_some] at h;obtain ⟨U,ae⟩:=L6 aD;obtain ⟨an,bd⟩:=GV (i:=i+1) h;refine ⟨by rw [fF,f8,ad9];push_cast;omega,fun j c aK s=>?_⟩;rw [fF];cases j with
        | zero=>
          have:x=c:=by simpa using aK
          subst this;rw [ae];constructor
          · intro au
            refine ⟨au.1,?_⟩;rw [ad6 uE,ar6,f9 ag];simp
          · rintro ⟨g1,g2⟩
            by_cases au:s<n+x.bl.length
            · exact ⟨g1,au⟩
            · rw [ad5 uE] at g2
              have:=Dm r (i+1) _ (d5 g2);omega
        | succ j=>
          rw [bd j c (by simpa using aK)];constructor
          · rintro ⟨g1,g2⟩
            refine ⟨by omega,?_⟩;rw [ad5 uE,ad9,show (s-n).toNat-x.bl.length=(s-k).toNat by omega,g2];congr 1;push_cast;omega
          · rintro ⟨g1,g2⟩
            by_cases au:s<k
            · rw [ad6 uE,ar6,f9 ag] at g2
              have:=al8.inj g2;omega
            · rw [ad5 uE,ad9,show (s-n).toNat-x.bl.length=(s-k).toNat by omega] at g2
              refine ⟨by omega,g2.trans ?_⟩;congr 1;push_cast;omega
    · cases h
theorem Vm {p:bP} {n:Int} (au:lC 0 p.cl=some n) (hw:fT (b6 p)) {i:Nat} (aQ:i<p.cl.length) (s:Int) :
  (o8 p i).contains s=(decide (s≥0)&&(decide (s<n)&&((ey (b6 p).ps).getD (3+i) 0).testBit ((b6 p).owner.getD s.toNat 0).toNat)):=by
 obtain ⟨U,ae⟩:=GV (i:=0) au;have hQ:(b6 p).ps.length=p.cl.length:=f6 _;have gh:(b6 p).owner=fF 0 p.cl:=rfl;rw [ad3,af7];unfold o8 o7;rw [List.mem_mergeSort,GU hw C (i+1) _ _ s ag];have aA:∀ k,hn (b6 p).ps (i+1) (fun k=>[(i:Int)+3].contains (k:Int)) k=wH (b6 p) (3+i) k:=fun k=>by
  unfold wH;rw [show 3+i-2=i+1 by omega];refine Dr _ _ _ _ (fun k=>?_) k;rw [ad3,af7,z2,g8];omega
 simp only [aA,f7,g8];rw [gh];constructor
 ·rintro (h|⟨j,aK,aq,hm⟩)
  ·cases h
  ·have vV:j<p.cl.length:=by omega
   obtain ⟨c,AQ⟩:∃ c,p.cl[j]? = some c:=⟨_,g6 vV⟩;rw [d6,AQ,ae1] at hm;obtain ⟨g1,g2⟩:=(ae j c AQ s).1 hm;rw [aA4] at g2;have g3:=(ac3.1 g2).1;refine ⟨g1,by omega,?_⟩;rw [show (fF 0 p.cl).getD s.toNat 0=((0:Nat):Int)+(j:Int)+3 by rw [d6,g2];rfl,← F4 hw ag ag];rw [show (((0:Nat):Int)+(j:Int)+3).toNat=3+j by omega];exact aq
 ·rintro ⟨g1,g2,g3⟩
  obtain ⟨o,ah⟩:∃ o,(fF 0 p.cl)[s.toNat]? = some o:=⟨_,g6 ag⟩;have L7:=Dm p.cl 0 o (d5 ah);rw [show (fF 0 p.cl).getD s.toNat 0=o by rw [d6,ah];rfl] at g3;have hle:=yc hw (3+i+1) (3+i) o.toNat ag ag g3;obtain ⟨j,aK⟩:∃ j:Nat,o=3+(j:Int):=⟨(o-3).toNat,by omega⟩;obtain ⟨c,AQ⟩:∃ c,p.cl[j]? = some c:=⟨_,g6 ag⟩;refine .inr ⟨j,by omega,?_,?_⟩
  ·rw [F4 hw ag ag,show 3+j=o.toNat by omega]
   exact g3
  ·rw [d6,AQ,ae1]
   refine (ae j c AQ s).2 ⟨g1,?_⟩;rw [aA4,ah,aK];congr 1;omega
end Go.dv
namespace Go.Proofs.YtnafpeohfbglmaaGreat
open Go.cW Go.dv
theorem L8:∀ (l:List fK) (i:Nat) (c:fK),fF i (l++[c])=fF i l++t7 c.bl.length (((i+l.length:Nat):Int)+3)
  | [],i,c=>by simp [fF]
  | x::r,i,c=>by
    rw [ab',fF,L8 r (i+1) c,fF,ae'];congr 3;rw [i8];omega
theorem L9 {l:List fK} {j:Nat} {c:fK} (h:l[j]? = some c):fF 0 (l.take (j+1))=fF 0 (l.take j)++t7 c.bl.length ((j:Int)+3):=by
 rw [iH h,L8];have:=qM h;rw [ac8,Nat.min_eq_left ag,ae4]
theorem L' (l:List fK) (j:Nat):(fF 0 (l.take j)).length≤(fF 0 l).length:=by
 have key:∀ (l:List fK) (i j:Nat),(fF i (l.take j)).length≤(fF i l).length:=by
  intro l
  induction l with
  | nil=>intro i j;simp [fF]
  | cons c r a6=>
   intro i j;cases j with
   | zero=>simp [fF]
   | succ j=>
    rw [List.take_succ_cons,fF,fF,f8,f8];have:=a6 (i+1) j;omega
 exact key l 0 j
theorem Ma (p:bP) (aE:fN p) (ah:(fF 0 p.cl).length<bu):aR d0 147 [cJ p] (eF (b6 p)):=by
 have aq:=bC;refine aR.bj ai Tryz.func147 C C fun s I=>?_
 have U:=LY p aE;have ct:=aE.cls;unfold eF eO b6;simp only;unfold cJ cL at *;unfold cV at *
 repeat (first|(refine zY ?_)|refine aa.jL I C C C C C C (fun b I=>?_)|refine aa.d' ai I C C C C C C C (fun cy I=>?_)|(refine SC I ?_;clear I;intro I))
 rename_i AR _;obtain ⟨wX,rfl⟩:∃ x,x=cy:=⟨_,rfl⟩;refine ad.wv I wX [.aC 1 ((hd p).map bg) .bc,.aC 1 [] .nil] .here (.cons aM (.one (aS.nil gW))) (fun I=>?_);refine ad.h2 I 3 1 0 fun I=>?_
 refine ad.b0 [2,3,10,11] C I (σ:=Nat×bM) (fun q=>[(12,.int .i64 (q.1:Int))]) (fun q=>[(.own wX,.box 62 [.aC 1 ((hd p).map bg) .bc,.aC 1 ((fF 0 (p.cl.take q.1)).map bb) q.2]),(q.2,.row 3 1 (fF 0 (p.cl.take q.1)).length),(.own AR,.box 62 [.aC 0 [] .nil,.aC 0 [] .nil])])
  (fun q=>q.1≤p.cl.length) (fun q=>p.cl.length-q.1) (0,.nil) (g7 _) (ck C) aY ?_
 rintro ⟨j,ui⟩ aK I;simp only at aK I ⊢;refine ht ?_;refine ad.cond C (fun ar=>?_) (fun aV=>?_);rotate_left
 ·have aV:j=p.cl.length:=by simp at aV;omega
  subst aV;rw [ac6] at I ⊢;refine cG I ?_;intro I;exact Fin.cp I (n5 C C (bp.get a1 I) C) (aS.agg (.cons aM (.one aS.bc)))
 have ar:j<p.cl.length:=by simpa using ar
 obtain ⟨c,ay,c'⟩:=bV (f:=ji) ar;have hD:=(aE.each c (d5 ay)).2.1;have aN:=L9 ay;have hle:=L' p.cl (j+1);have iG:H1 .i64 ((j:Int)+3)=(j:Int)+3:=eo ag ag;rw [aN,f8,ad9] at hle;generalize fF 0 (p.cl.take j)=os at I aN hle ⊢;unfold ji m4 bg at c'
 repeat (first|(refine CR I ?_;clear I;intro I)|refine aa.d' ai I rfl rfl rfl rfl rfl rfl rfl (fun cy I=>?_))
 refine ad.b0 [2,3,4,10,11,12,18,19] C I (σ:=Nat×bM) (fun q=>[(20,.int .i64 (q.1:Int))]) (fun q=>[(.own wX,.box 62 [.aC 1 ((hd p).map bg) .bc,.aC 1 ((os++t7 q.1 ((j:Int)+3)).map bb) q.2]),(q.2,.row 3 1 (os++t7 q.1 ((j:Int)+3)).length),(.own AR,.box 62 [.aC 0 [] .nil,.aC 0 [] .nil])])
  (fun q=>q.1≤c.bl.length) (fun q=>c.bl.length-q.1) (0,ui) (g7 _) (ck C) (by simp only [as4,d7];exact aY) ?_
 rintro ⟨k,bR⟩ aD I;simp only at aD I ⊢;refine b2 ?_;refine ad.cond C (fun cC=>?_) (fun dm=>?_);rotate_left
 ·have dm:k=c.bl.length:=by simp at dm;omega
  subst dm;rw [← aN] at I ⊢;refine bB ?_;exact bn.mk (j+1,bR) I ar b' aY yl
 have cC:k<c.bl.length:=by simpa using cC
 have hh:(os++t7 k ((j:Int)+3)).length=os.length+k:=by simp
 have GW:(os++t7 (k+1) ((j:Int)+3)).map bb=(os++t7 k ((j:Int)+3)).map bb++[.int .i64 (H1 .i64 ((j:Int)+3))]:=by rw [iG,am2,← ae',ac2];rfl
 have GX:(os++t7 (k+1) ((j:Int)+3)).length=(os++t7 k ((j:Int)+3)).length+1:=by simp;omega
 refine cG I ?_;intro I;refine aa.gf ai I C C C C C C C et C C C C C C C C a1 ba j2 ag (fun fi I=>?_);refine hl I ?_;intro I;exact bn.mk (k+1,.own fi) I cC (by repeat (first|exact trivial|refine ⟨⟨_,rfl,aM⟩,?_⟩|refine ⟨⟨_,rfl,aS.of_eq (by (first|rw [jv ag]))⟩,?_⟩)) (by simp only [GX,GW];exact aY) Df
theorem Mb (n:Int):aR d0 183 [.int .i64 n] (.bool (km n)):=by
 have aq:=bC;refine aR.bj ai Tryz.func183 C C fun s I=>?_
 repeat' (first|(with_reducible first|apply ad.seq|apply bY|apply ad.ret)|refine cT C ?_|refine ad.cB ?_|refine aa.nil ?_|refine cx C ?_|refine aa.skip C C C ?_|(fail_if_success refine aa.same true C ?_);(fail_if_success refine aa.same false C ?_);refine aa.gA C C (fun h=>?_) (fun h=>?_))
 all_goals (refine Fin.cp I C (aS.of_eq (congrArg af.bool ?_));clear I;unfold km;grind)
theorem Mc (p:bP) (aE:fN p):aR d0 88 [cJ p] (cV (hd p)):=by
 have aq:=bC;refine aR.bj ai Tryz.func88 C C fun s I=>?_
 have ct:=aE.cls;obtain ⟨xs,cY⟩:∃ xs:Nat→List af,∀ j,xs j=((p.cl.take j).map fK.parents).map bg:=⟨_,fun _=>rfl⟩;have br:xs 0=[]:=by rw [cY];rfl
 have e7:∀ j,(xs j).length≤p.cl.length:=fun j=>by
  rw [cY,f6,f6];exact ai6 _ _
 unfold cV cJ cL hd;refine gg ?_;refine ad.h2 I 23 1 0 fun I=>?_
 refine ad.b0 [1] C I (σ:=Nat×bM) (fun q=>[(4,.int .i64 (q.1:Int)),(3,.aC 1 (xs q.1) q.2)]) (fun q=>[(q.2,.row 23 1 (xs q.1).length)]) (fun q=>q.1≤p.cl.length) (fun q=>p.cl.length-q.1) (0,.nil) (g7 _) ⟨⟨_,rfl,aM⟩,⟨_,rfl,by rw [br];exact aS.nil gW⟩,trivial⟩ uR ?_;rintro ⟨j,own⟩ aK I;simp only at aK I ⊢;refine b2 ?_;refine ad.cond C (fun ar=>?_) (fun aV=>?_);rotate_left
 ·have aV:j=p.cl.length:=by simp at aV;omega
  subst aV;have he:xs p.cl.length=(p.cl.map fK.parents).map bg:=by rw [cY,ac6]
  rw [he];refine dB ?_;exact Fin.cp I C aS.bc
 have ar:j<p.cl.length:=by simpa using ar
 obtain ⟨c,ay,c'⟩:=bV (f:=ji) ar;have au:=cY (j+1);rw [iH ay,ac2,ac2,← cY] at au;have au:xs (j+1)=xs j++[.aC 1 (c.parents.map bb) .bc]:=au;have dd:(xs (j+1)).length=(xs j).length+1:=by rw [au];simp
 have lp:=e7 j;have hQ:=(aE.each c (d5 ay)).1;unfold ji m4 bg at *;refine dC ?_;refine aa.rO ai C C C C C C C et C C C (.inl C) (.inr C) C (GA _) (by simp only [ae0,ae4,f6];show _*8≤_;omega) Gy (.inl C) ?_;rw [d8];refine dS ?_;refine aa.gf ai I C C C C C C C et C C C C C C C C a1 hc pN ag (fun bR I=>?_);refine fu ?_;refine bn.mk (j+1,.own bR) I ar j1 tw yl
theorem AS (p:bP) (aE:fN p) (ah:(fF 0 p.cl).length<bu):aR d0 36 [cJ p] (eF (b6 p)):=by
 have aq:=bC;refine aR.bj ai Tryz.func36 C C fun s I=>?_
 have U:=Mc p aE;have ct:=aE.cls;unfold eF eO b6;simp only;unfold cJ cL at *;unfold cV at *
 repeat (first|(refine SD I ?_;clear I;intro I)|refine aa.d' ai I rfl rfl rfl rfl rfl rfl rfl (fun cy I=>?_)|(refine pM ?_))
 rename_i AR _;obtain ⟨wX,rfl⟩:∃ x,x=cy:=⟨_,rfl⟩;refine ad.wv I wX [.aC 1 ((hd p).map bg) .bc,.aC 1 [] .nil] .here (.cons aM (.one (aS.nil gW))) (fun I=>?_);refine ad.h2 I 3 1 0 fun I=>?_
 refine ad.b0 [1,2,3] C I (σ:=Nat×bM) (fun q=>[(4,.int .i64 (q.1:Int))]) (fun q=>[(.own wX,.box 62 [.aC 1 ((hd p).map bg) .bc,.aC 1 ((fF 0 (p.cl.take q.1)).map bb) q.2]),(q.2,.row 3 1 (fF 0 (p.cl.take q.1)).length),(.own AR,.box 62 [.aC 0 [] .nil,.aC 0 [] .nil])])
  (fun q=>q.1≤p.cl.length) (fun q=>p.cl.length-q.1) (0,.nil) (g7 _) (ck C) aY ?_
 rintro ⟨j,ui⟩ aK I;simp only at aK I ⊢;refine b2 ?_;refine ad.cond C (fun ar=>?_) (fun aV=>?_);rotate_left
 ·have aV:j=p.cl.length:=by simp at aV;omega
  subst aV;rw [ac6] at I ⊢;refine cG I ?_;intro I;exact Fin.cp I (n5 C C (bp.get a1 I) C) (aS.agg (.cons aM (.one aS.bc)))
 have ar:j<p.cl.length:=by simpa using ar
 obtain ⟨c,ay,c'⟩:=bV (f:=ji) ar;have hD:=(aE.each c (d5 ay)).2.1;have aN:=L9 ay;have hle:=L' p.cl (j+1);have iG:H1 .i64 ((j:Int)+3)=(j:Int)+3:=eo ag ag;rw [aN,f8,ad9] at hle;generalize fF 0 (p.cl.take j)=os at I aN hle ⊢;unfold ji m4 bg at c';refine jh ?_;refine ad.b0 [1,2,3,4] C I (σ:=Nat×bM) (fun q=>[(5,.int .i64 (q.1:Int))]) (fun q=>[(.own wX,.box 62 [.aC 1 ((hd p).map bg) .bc,.aC 1 ((os++t7 q.1 ((j:Int)+3)).map bb) q.2]),(q.2,.row 3 1 (os++t7 q.1 ((j:Int)+3)).length),(.own AR,.box 62 [.aC 0 [] .nil,.aC 0 [] .nil])])
  (fun q=>q.1≤c.bl.length) (fun q=>c.bl.length-q.1) (0,ui) (g7 _) (ck C) (by simp only [as4,d7];exact aY) ?_
 rintro ⟨k,bR⟩ aD I;simp only at aD I ⊢;refine dC ?_;refine ad.cond C (fun cC=>?_) (fun dm=>?_);rotate_left
 ·have dm:k=c.bl.length:=by simp at dm;omega
  subst dm;rw [← aN] at I ⊢;refine bB ?_;exact bn.mk (j+1,bR) I ar b' aY yl
 have cC:k<c.bl.length:=by simpa using cC
 have hh:(os++t7 k ((j:Int)+3)).length=os.length+k:=by simp
 have GW:(os++t7 (k+1) ((j:Int)+3)).map bb=(os++t7 k ((j:Int)+3)).map bb++[.int .i64 (H1 .i64 ((j:Int)+3))]:=by rw [iG,am2,← ae',ac2];rfl
 have GX:(os++t7 (k+1) ((j:Int)+3)).length=(os++t7 k ((j:Int)+3)).length+1:=by simp;omega
 refine cG I ?_;intro I;refine aa.gf ai I C C C C C C C et C C C C C C C C a1 ba j2 ag (fun fi I=>?_);refine hl I ?_;intro I;exact bn.mk (k+1,.own fi) I cC (by repeat (first|exact trivial|refine ⟨⟨_,rfl,aM⟩,?_⟩|refine ⟨⟨_,rfl,aS.of_eq (by (first|rw [jv ag]))⟩,?_⟩)) (by simp only [GX,GW];exact aY) Df
end Go.Proofs.YtnafpeohfbglmaaGreat
namespace Go.dv
def tE (p:bP) (x:iU):Int:=
 if x.op=5 then (if 0≤x.n∧x.n<(p.dw.length:Int) then p.dw.getD x.n.toNat 0 else -1) else (r4 p x).getD (-1)
theorem Vn (p:bP) (next:Bool) (x:iU) (size:Int):yu p next x size=(decide ((x.kids.length:Int)=tE p x)&&(m6 p x size&&(decide (x.op≠18)||next))):=by
 unfold yu;cases az:m6 p x size with
 | false=>simp
 | true=>
  have aD:(r4 p x==some (x.kids.length:Int))=decide ((x.kids.length:Int)=tE p x):=by
   rw [ad3,beq_iff_eq,g8];unfold tE;split
   ·rename_i bD
    have aF:0≤x.n∧x.n<(p.dw.length:Int):=by
     unfold m6 at az;rw [d9 ag,d9 ag,d9 ag,d9 ag,f9 bD] at az;simpa using az
    rw [f9 aF];unfold r4;rw [f9 bD,al8.injEq];exact eq_comm
   ·cases aD:r4 p x with
    | none=>simp
    | some k=>simp;exact eq_comm
  rw [aD,f0];cases next<;>cases decide ((x.kids.length:Int)=tE p x)<;>simp
theorem Md {Q:List Int→Prop} {g:Int→Int→List Int→Option (List Int)} (isLet:Bool) (size:Int) (br:0≤size) (aw:∀ k s out o,0≤s→Q out→g k s out=some o→Q o) :
    ∀ (ks:List Int) (i:Nat) (out o:List Int),Q out→lD g isLet size i ks out=some o→Q o
  | [],i,out,o,bq,h=>by rw [lD] at h;cases h;exact bq
  | k::r,i,out,o,bq,h=>by
    rw [lD] at h;cases aD:g k (if isLet&&i==1 then size+1 else size) out with
    | none=>rw [aD] at h;cases h
    | some pc=>
      rw [aD] at h;exact Md isLet size br aw r (i+1) pc o (aw k _ out pc (by split<;>omega) bq aD) h
theorem GY {p:bP} {next:Bool} {Q:List Int→Prop} (Me:∀ (n:Nat) (size:Int) out,0≤size→Q out→Q (out.set n size)):∀ (f:Nat) (n size:Int) (out o:List Int),0≤size→Q out→visitM p next f n size out=some o→Q o
  | 0,_,_,_,_,_,_,h=>by rw [visitM] at h;cases h
  | f+1,n,size,out,o,br,bq,h=>by
    rw [visitM] at h;split at h
    · split at h
      · exact Md _ size br (fun k s out o au bq h=>GY Me f k s out o au bq h) _ 0 _ o (Me _ _ _ br bq) h
      · cases h
    · cases h
theorem q1 {p:bP} {next:Bool} {f:Nat} {n size:Int} {out o:List Int} (br:0≤size) (h:visitM p next f n size out=some o):o.length=out.length:=
 GY (Q:=fun l=>l.length=out.length) (fun n s l _ aB=>by rw [List.length_set];exact aB) f n size out o br C h
theorem Mf {p:bP} {next:Bool} {f:Nat} {n size:Int} {out o:List Int} (br:0≤size) (bq:∀ x∈out,-1≤x) (h:visitM p next f n size out=some o):∀ x∈o,-1≤x:=
 GY (Q:=fun l=>∀ x∈l,(-1:Int)≤x) (fun n s l au aB x ab=>by
  rcases List.mem_or_eq_of_mem_set ab with h|h
  ·exact aB x h
  ·omega) f n size out o br bq h
end Go.dv
namespace Go.Proofs.YtnafpeohfbglmaaGreat
open Go.cW Go.dv
theorem Vo (k:Int):aR d0 139 [.int .i64 k] (.bool (tz k)):=by
 have aq:=bC;refine aR.bj ai Tryz.func139 C C fun s I=>?_
 repeat' (first|(with_reducible first|apply ad.seq|apply bY|apply ad.ret)|refine cT C ?_|refine ad.cB ?_|refine aa.nil ?_|refine cx C ?_|refine aa.skip C C C ?_|(fail_if_success refine aa.same true C ?_);(fail_if_success refine aa.same false C ?_);refine aa.gA C C (fun h=>?_) (fun h=>?_))
 all_goals (refine Fin.cp I C (aS.of_eq (congrArg af.bool ?_));clear I;unfold tz;grind)
theorem Vp (p:bP) (aE:fN p) (x:iU) (size:Int):aR d0 185 [cJ p,jj x,.int .i64 size] (.bool (m6 p x size)):=by
 have aq:=bC;refine aR.bj ai Tryz.func185 C C fun s I=>?_
 have ct:=aE.cls;have U:=Mb x.n;have df:H1 .i64 (3+((p.cl.map ji).length:Int))=3+(p.cl.length:Int):=by rw [f6,eo ag ag]
 unfold cJ cL jj k4 bg at *
 repeat' (first|(with_reducible first|apply ad.seq|apply bY|apply fm|apply fg|apply gG|apply ad.ret|apply ad.skip|apply ad.block)|refine cT C ?_|refine ad.cB ?_|refine aa.nil ?_|refine cx C ?_|refine aa.skip C C C ?_|refine aa.dQ C C C C C ch ?_|(fail_if_success refine aa.same true C ?_);(fail_if_success refine aa.same false C ?_);refine aa.gA C C (fun h=>?_) (fun h=>?_)|refine ad.cond C (fun h=>?_) (fun h=>?_))
 all_goals (refine Fin.cp I C (aS.of_eq (congrArg af.bool ?_));clear I U ct;unfold m6;simp only [f6] at *;first|grind|(rw [d9 (by grind),d9 (by grind),d9 (by grind),d9 (by grind),d9 (by grind)];grind))
theorem Vq (o:Int):(o=1∨o=2∨o=3∨o=6∨o=18∨o=4∨o=8∨o=17∨o=7∨o=9∨o=11∨o=12∨o=13∨o=14∨o=15∨o=16∨o=10)∨o=5∨(∀ k:Int,(k=1∨k=2∨k=3∨k=6∨k=18∨k=4∨k=8∨k=17∨k=7∨k=9∨k=11∨k=12∨k=13∨k=14∨k=15∨k=16∨k=10∨k=5)→(o==k)=false):=by
 by_cases h:o=5
 ·exact .inr (.inl h)
 ·by_cases ae:(o=1∨o=2∨o=3∨o=6∨o=18∨o=4∨o=8∨o=17∨o=7∨o=9∨o=11∨o=12∨o=13∨o=14∨o=15∨o=16∨o=10)
  ·exact .inl ae
  ·refine .inr (.inr fun k aD=>?_)
   rw [beq_eq_false_iff_ne];omega
theorem Vr (p:bP) (x:iU):aR d0 184 [cJ p,jj x] (.int .i64 (tE p x)):=by
 have aq:=bC;refine aR.bj ai Tryz.func184 C C fun s I=>?_
 obtain ⟨op,n,kids⟩:=x;unfold jj k4 cJ cL;simp only;rcases Vq op with h|rfl|h
 ·rcases h with rfl|rfl|rfl|rfl|rfl|rfl|rfl|rfl|rfl|rfl|rfl|rfl|rfl|rfl|rfl|rfl|rfl
  all_goals
   (repeat (first|(with_reducible first|apply ad.seq|apply bY|apply fm|apply fg|apply gG|apply ad.ret|apply ad.skip|apply ad.block)|refine cT C ?_|refine ad.e8 C ?_|refine ad.gr C ?_ ));exact Fin.cp I C (aS.of_eq C)
 ·unfold tE
  simp only [if_true];unfold bg;by_cases br:0≤n;rotate_left
  ·rw [d9 (fun h=>br h.1)]
   (repeat (first|(with_reducible first|apply ad.seq|apply bY|apply fm|apply fg|apply gG|apply ad.ret|apply ad.skip|apply ad.block)|refine cT C ?_|refine ad.e8 C ?_|refine ad.gr C ?_ ));refine jM ?_;refine aa.c2 33 C cE ?_;refine bB ?_;exact bm I
  by_cases U:n<(p.dw.length:Int);rotate_left
  ·rw [d9 (fun h=>U h.2)]
   (repeat (first|(with_reducible first|apply ad.seq|apply bY|apply fm|apply fg|apply gG|apply ad.ret|apply ad.skip|apply ad.block)|refine cT C ?_|refine ad.e8 C ?_|refine ad.gr C ?_ ));refine jM ?_;refine aa.ds 33 C cE ?_;refine fI ?_;refine ad.cond C (fun h=>by simp at h;omega) (fun _=>?_);refine bB ?_;exact bm I
  rw [f9 ⟨br,U⟩];obtain ⟨q,rfl⟩:∃ q:Nat,n=q:=⟨n.toNat,by omega⟩;obtain ⟨y,ay,c'⟩:=bV (f:=bb) (l:=p.dw) (j:=q) ag;rw [ac0,d6,ay,ae1];unfold bb at c'
  (repeat (first|(with_reducible first|apply ad.seq|apply bY|apply fm|apply fg|apply gG|apply ad.ret|apply ad.skip|apply ad.block)|refine cT C ?_|refine ad.e8 C ?_|refine ad.gr C ?_ ));skip;refine ad.cond C (fun _=>?_) (fun h=>by simp at h;omega);refine bB ?_;exact bm I
 ·have aD:tE p ⟨op,n,kids⟩ = -1:=by
   have bD:op≠5:=by have:=h 5 ba;rwa [beq_eq_false_iff_ne] at this
   unfold tE r4;simp only;have ne:=fun k aD=>beq_eq_false_iff_ne.1 (h k aD)
   rw [d9 bD,d9 bD];rw [d9 (by have:=ne 1 ba;have:=ne 2 ba;have:=ne 3 ba;have:=ne 6 ba;have:=ne 18 ba;omega)];rw [d9 (by have:=ne 4 ba;have:=ne 8 ba;have:=ne 17 ba;omega)];rw [d9 (by have:=ne 7 ba;have:=ne 9 ba;have:=ne 11 ba;have:=ne 12 ba;have:=ne 13 ba;have:=ne 14 ba;have:=ne 15 ba;have:=ne 16 ba;omega)];rw [d9 (by have:=ne 10 ba;omega)];rfl
  rw [aD]
  (repeat (first|(with_reducible first|apply ad.seq|apply bY|apply fm|apply fg|apply gG|apply ad.ret|apply ad.skip|apply ad.block)|refine cT C ?_|refine ad.e8 C ?_|refine ad.gr C ?_|refine ad.cond C (fun cP=>absurd (cP.symm.trans (h _ ba)) ba) (fun _=>?_)));exact bm I
def m7 (w:bx) (f:aj) (aU:List dD) (args:List (Int×Int)):Bool×Int:=
 if h' w f&&(nC w aU args&&decide (iW f≤args.length)) then (oa w aU args f,0) else (false,2)
theorem Mg {w:bx} {aU:List dD} {args:List (Int×Int)} (h:nC w aU args=true):qY w aU∧args.length≤3∧∀ v∈args,fx aU.length v=true:=by
 unfold nC at h;simp only [f7,g8,af3] at h;exact ⟨qY.of h.1,h.2.2.1,h.2.2.2⟩
theorem GZ (w:bx) (hw:fT w) (f:aj) (aZ:f.size<bu) (aU:List dD) (args:List (Int×Int)) (aB:aU.length<bu) (ah:∀ o∈aU,o.bl.length<bu) (a8:args.length<bu):aR d0 74 [eF w,f.bJ,gj aU,jC args] (.cu [.bool (m7 w f aU args).1,.int .i64 (m7 w f aU args).2]):=by
 have aq:=bC;refine aR.bj ai Tryz.func74 C C fun s I=>?_
 have U:=GG w hw [f] cE (by intro g aw;rw [z2] at aw;subst aw;exact aZ);have ae:=UR w hw aU args aB ah a8;rw [ac4,ae5,ah1,ak0,ao8] at U;have ed:m7 w f aU args=if h' w f&&(nC w aU args&&decide (iW f≤args.length)) then (oa w aU args f,0) else (false,2):=rfl
 cases an:h' w f with
 | false=>
  rw [an,f5,d9 ba] at ed;rw [ed];rw [an,aj.bW] at U;rw [aj.bW];unfold eF eO cV bg at *;unfold gn e6 at *;refine bZ ?_;exact bm I
 | true=>
  have aw:=rW f w 12 24 an;have bd:=US w f.size f (i0 _) aZ aw;rw [an,f0] at ed;rw [an] at U;cases bD:nC w aU args with
  | false=>
   rw [bD,f5,d9 ba] at ed;rw [ed];rw [bD] at ae;rw [aj.bW] at U ⊢;unfold eF eO cV bg at *;unfold gn e6 at *;refine bZ ?_;exact bm I
  | true=>
   obtain ⟨g1,g2,g3⟩:=Mg bD;rw [bD,f0] at ed;rw [bD] at ae;by_cases fk:iW f≤args.length
   ·have ij:=Vj w hw aU g1 args g3 g2 f.size f (i0 _) aZ aw fk
    rw [f9 (by simpa using fk)] at ed;rw [ed];rw [aj.bW] at U bd ij ⊢;unfold eF eO cV bg at *;unfold gn e6 at *;refine bZ ?_;refine ad.cond C (fun h=>?_) (fun _=>?_)
    ·exfalso
     simp at h;omega
    refine c3 ?_;exact bm I
   ·rw [d9 (by simpa using fk)] at ed
    rw [ed];rw [aj.bW] at U bd ⊢;unfold eF eO cV bg at *;unfold gn e6 at *;refine bZ ?_;refine ad.cond C (fun h=>?_) (fun h=>?_)
    ·refine gH ?_
     exact bm I
    ·exfalso
     simp at h;omega
end Go.Proofs.YtnafpeohfbglmaaGreat
namespace Go.dv
abbrev cg:=aj×Bool
def wY (x y:cg):Bool:=(x.2==y.2)&&aj.same x.1 y.1
theorem Vs (x y:cg):wY x y=true↔x=y:=by
 obtain ⟨f,b⟩:=x;obtain ⟨g,c⟩:=y;unfold wY;simp only [f7,beq_iff_eq,aj.Kx,Prod.mk.injEq];exact And.comm
def q2 (out:List cg) (x:cg):List cg:=if out.any (wY x) then out else out++[x]
def jP (a b:List cg):List cg:=b.foldl q2 a
theorem G0:∀ (b a:List cg),(jP a b).length≤a.length+b.length
  | [],a=>i0 _
  | x::r,a=>by
    have U:=G0 r (q2 a x);have ae:(q2 a x).length≤a.length+1:=by
      unfold q2;split
      · omega
      · simp
    have an:jP a (x::r)=jP (q2 a x) r:=rfl;rw [an,i8];omega
theorem Ds {y:cg}:∀ (b a:List cg),y∈jP a b→y∈a∨y∈b
  | [],a,h => .inl h
  | x::r,a,h=>by
    rcases Ds r (q2 a x) h with h|h
    · unfold q2 at h
      split at h
      · exact .inl h
      · rcases ac9.1 h with h|h
        · exact .inl h
        · exact .inr (by rw [z2] at h;subst h;exact i7)
    · exact .inr (i5 _ h)
mutual
def h5 (q3:Bool):aj→List (List cg)
 | .mk o a p c n ks=>
  if o=1 then (if q3 then [] else [[]])
  else if o=5 then ie (!q3) 0 ks
  else if (aj.mk o a p c n ks).cU then [[(.mk o a p c n ks,q3)]]
  else if q3=decide (o=6) then ie q3 0 ks++ie q3 1 ks
  else (ie q3 0 ks).flatMap fun x=>(ie q3 1 ks).map (jP x)
def ie (q3:Bool):Nat→List aj→List (List cg)
 | _,[]=>[]
 | 0,x::_=>h5 q3 x
 | n+1,_::r=>ie q3 n r
end
theorem tF (c:Bool):∀ (n:Nat) (l:List aj) (x:aj),l[n]? = some x→ie c n l=h5 c x
 | 0,y::r,x,h=>by rw [ie];simp at h;rw [h]
 | n+1,y::r,x,h=>by rw [ie];exact tF c n r x fZ
theorem Mh (b:Bool) (f:aj):h5 b f=if f.op=1 then (if b then [] else [[]])
  else if f.op=5 then ie (!b) 0 f.kids
  else if f.cU then [[(f,b)]]
  else if b=decide (f.op=6) then ie b 0 f.kids++ie b 1 f.kids
  else (ie b 0 f.kids).flatMap fun x=>(ie b 1 f.kids).map (jP x):=by cases f;rw [h5];rfl
def Mi (n:Nat) (l:List cg):Prop:=l.length≤n∧∀ x∈l,x.1.size≤n
theorem Vt (f:aj):1≤f.size:=by rw [aj.size_eq];omega
mutual
theorem G1:∀ (f:aj) (b:Bool),∀ l∈h5 b f,Mi f.size l
  | .mk o a p c n ks,b,l,h=>by
    rw [h5] at h;have iv:=(aj.mk o a p c n ks).size_eq;have yz:(aj.mk o a p c n ks).kids=ks:=rfl;rw [yz] at iv;split at h
    · split at h
      · cases h
      · rw [z2] at h;subst h;exact ⟨by simp,by simp⟩
    · split at h
      · have:=uY ks _ 0 l h
        exact ⟨by have:=this.1;omega,fun x ab=>by have:=this.2 x ab;omega⟩
      · split at h
        · rw [z2] at h;subst h
          exact ⟨Vt _,fun x ab=>by rw [z2] at ab;subst ab;exact i0 _⟩
        · split at h
          · rcases ac9.1 h with h|h
            · have:=uY ks _ 0 l h
              exact ⟨by have:=this.1;omega,fun x ab=>by have:=this.2 x ab;omega⟩
            · have:=uY ks _ 1 l h
              exact ⟨by have:=this.1;omega,fun x ab=>by have:=this.2 x ab;omega⟩
          · obtain ⟨x,ab,h⟩:=List.mem_flatMap.1 h
            obtain ⟨y,ay,rfl⟩:=ad7.1 h;have U:=Mj ks b x y ab ay;refine ⟨by have:=G0 y x;omega,fun z bO=>?_⟩;rcases Ds y x bO with bO|bO
            · have:=(uY ks _ 0 x ab).2 z bO;omega
            · have:=(uY ks _ 1 y ay).2 z bO;omega
theorem uY:∀ (ks:List aj) (b:Bool) (n:Nat),∀ l∈ie b n ks,Mi (aj.hv ks) l
  | [],b,n,l,h=>by rw [ie] at h;cases h
  | x::r,b,0,l,h=>by
    rw [ie] at h;have:=G1 x b l h;rw [aj.hv];exact ⟨by have:=this.1;omega,fun y ay=>by have:=this.2 y ay;omega⟩
  | x::r,b,n+1,l,h=>by
    rw [ie] at h;have:=uY r b n l h;rw [aj.hv];exact ⟨by have:=this.1;omega,fun y ay=>by have:=this.2 y ay;omega⟩
theorem Mj:∀ (ks:List aj) (b:Bool) (x y:List cg),x∈ie b 0 ks→y∈ie b 1 ks→x.length+y.length≤aj.hv ks
  | [],b,x,y,h,_=>by rw [ie] at h;cases h
  | k::r,b,x,y,h,eX=>by
    rw [tF b 0 (k::r) k C] at h;rw [show (1:Nat)=0+1 from rfl,ie] at eX;have U:=(G1 k b x h).1;have ae:=(uY r b 0 y eX).1;rw [aj.hv];omega
end
end Go.dv
namespace Go.Proofs.YtnafpeohfbglmaaGreat
open Go.cW Go.dv
theorem Mk:∀ (a b:List aj),pW aj.same a b=aj.o1 a b
 | [],[]=>by rw [pW,aj.o1]
 | [],_::_=>by rw [pW,aj.o1]<;>simp
 | _::_,[]=>by rw [pW,aj.o1]<;>simp
 | x::r,y::t=>by rw [pW,aj.o1,Mk r t]
theorem Vu (f g:aj):aj.same f g=(decide (f.op=g.op)&&(decide (f.arg=g.arg)&&(decide (f.cls=g.cls)&&(decide (f.n=g.n)&&(f.path==g.path&&aj.o1 f.kids g.kids))))):=by
 cases f;cases g;rw [aj.same];rfl
theorem Vv:∀ (n:Nat) (f g:aj),f.size≤n→n<bu→g.size<bu→aR d0 268 [f.bJ,g.bJ] (.bool (aj.same f g)):=by
  have aq:=bC;intro n
  induction n with
  | zero=>intro x _ h;have:=x.size_eq;omega
  | succ n a6=>
    intro f g az iP aw;have U:=f.size_eq;have ae:=g.size_eq;have lN:=aj.pP f.kids;have eW:=aj.pP g.kids;have an:=Aj f.path g.path ag ag
    have bd:=TZ (.func 268 [] []) aj.same f.kids g.kids ag ag (fun x ab y ay=>eE.fp (first:=[]) (cap:=[]) (by
      have:=aj.hx ab
      have:=aj.hx ay
      exact a6 x y ag ag ag))
    rw [Mk] at bd;refine aR.bj ai Tryz.func268 C C fun s I=>?_
    rw [aj.bW,aj.bW,Vu];unfold bg bb at an
    repeat' (first|(with_reducible first|apply ad.seq|apply bY|apply ad.ret)|refine cT C ?_|refine ad.cB ?_|refine aa.nil ?_|refine cx C ?_|refine aa.skip C C C ?_|refine aa.dQ C C C C C ch ?_|(fail_if_success refine aa.same true C ?_);(fail_if_success refine aa.same false C ?_);refine aa.gA C C (fun h=>?_) (fun h=>?_))
    all_goals (refine Fin.cp I C (aS.of_eq (congrArg af.bool ?_));clear I an bd a6;grind)
theorem Vw (x y:cg) (ab:x.1.size<bu) (ay:y.1.size<bu):eE d0 (.func 267 [] [.bA (pX x) 0]) [h4 y] (.bool (wY x y)):=by
 have aq:=bC;refine eE.fp (first:=[]) (cap:=[.bA (pX x) 0]) ?_;refine aR.bj ai Tryz.func267 C C fun s I=>?_
 obtain ⟨f,b⟩:=x;obtain ⟨g,c⟩:=y;have U:=Vv f.size f g (i0 _) ab ay;rw [aj.bW,aj.bW] at U;unfold h4 pX wY;simp only
 repeat' (first|(with_reducible first|apply ad.seq|apply bY|apply ad.ret)|refine cT C ?_|refine ad.cB ?_|refine aa.nil ?_|refine cx C ?_|refine aa.skip C C C ?_|refine aa.dQ C C C C C ch ?_|(fail_if_success refine aa.same true C ?_);(fail_if_success refine aa.same false C ?_);refine aa.gA C C (fun h=>?_) (fun h=>?_))
 all_goals (refine Fin.cp I C (aS.of_eq (congrArg af.bool ?_));clear I U;grind)
theorem Vx (l:List cg):∀ y∈l.map h4,kh 7 y=true:=T2 l
theorem Vy (l:List cg) (own:bM) (aB:l.length<bu):bE d0 265 [.aC 7 (l.map h4) own] [] (fun o K=>∃ cQ,o = .ret (.aC 7 (l.map h4) cQ)∧K=[(cQ,.row 289 7 l.length)]):=by
 have aq:=bC;refine bE.bj ai Tryz.func265 C C fun s I=>?_
 refine dL ?_;refine aa.op C C C (a7.Gm ai C C C C (X:=fun _ _=>False)) ?_ (fun _ _ h=>False.elim h);rintro r al ⟨rfl,⟨rfl,az⟩|rfl⟩
 ·have uq:l.length=0:=by simpa using congrArg List.length az
  refine aa.h2 I 289 7 0 fun I=>?_
  refine ew ?_;rw [az,uq];exact Fin.bz I C (aS.nil gW) (aH.all _) ⟨.nil,rfl,rfl⟩
 ·refine bB ?_
  refine aa.Aq I 289 7 0 fun I=>?_
  refine aa.qH ai I C C C C C C C et C C C C (.inr C) C (Vx l) C .here C (n':=l.length) ba (by simp only [ae0,ae4,f6];show _*88≤_;omega) Gy (fun tu I=>?_);refine eD ?_;exact Fin.bz I C aM (aH.all _) ⟨tu,rfl,rfl⟩
theorem Vz (fv:af) (xs:List cg) (T:Nat→a') (cq:Nat→Bool) (aB:xs.length<bu) (h:∀ j x,xs[j]? = some x→(∀ i,i<j→cq i=false)→dt d0 fv [h4 x] (T j) (fun o K=>o = .ret (.bool (cq j))∧K=T (j+1))) :
  bE d0 279 [.aC 7 (xs.map h4) .bc,fv] (T 0)
   (fun o K=>(o = .ret (.int .i64 (-1))∧K=T xs.length∧∀ i,i<xs.length→cq i=false)∨∃ j,j<xs.length∧cq j=true∧(∀ i,i<j→cq i=false)∧o = .ret (.int .i64 (j:Int))∧K=T (j+1)):=by
 have aq:=bC;refine bE.bj ai Tryz.func279 C C fun s I=>?_
 refine gg ?_;refine ad.x6 I (σ:=Nat) (fun j=>[(0,.aC 7 (xs.map h4) .bc),(1,fv),(7,.int .i64 xs.length),(8,.int .i64 (j:Int))]) T (fun j=>j≤xs.length∧∀ i,i<j→cq i=false) (fun j=>xs.length-j) 0 ⟨by omega,fun i aQ=>by omega⟩ z1 (aH.all _) ?_;rintro j ⟨aK,ak⟩ I;refine b2 ?_;refine ad.cond C (fun ar=>?_) (fun aV=>?_)
 ·have ar:j<xs.length:=by simpa using ar
  obtain ⟨x,ab,bL⟩:=bV (f:=h4) ar;have av:=h j x ab ak
  try rw [h4] at bL av
  refine bB ?_;refine aa.gM rfl rfl rfl rfl rfl rfl av I (aH.all _) ?_ (fun _ _ ⟨h,_⟩ _=>by cases h);rintro _ _ ⟨⟨⟩,rfl⟩ I;rw [d7] at I ⊢;cases od:cq j with
  | true=>
   refine e5 ?_;exact Fin.bz I C aM (aH.all _) (.inr ⟨j,ar,od,ak,rfl,rfl⟩)
  | false=>
   refine bB ?_
   exact bn.mk (j+1) I ⟨ar,fun i aQ=>by
    rcases af1.1 aQ with aQ|rfl
    ·exact ak i aQ
    ·exact od⟩ b' (aH.all _) rR
 ·have aV:j=xs.length:=by
   have:xs.length≤j:=by simpa using aV
   omega
  subst aV;refine dB ?_;exact Fin.bz I C aM (aH.all _) (.inl ⟨rfl,rfl,ak⟩)
theorem VA (fv:af) (xs:List cg) (T:Nat→a') (cq:Nat→Bool) (aB:xs.length<bu) (h:∀ j x,xs[j]? = some x→(∀ i,i<j→cq i=false)→dt d0 fv [h4 x] (T j) (fun o K=>o = .ret (.bool (cq j))∧K=T (j+1))) :
  bE d0 266 [.aC 7 (xs.map h4) .bc,fv] (T 0)
   (fun o K=>(o = .ret (.bool false)∧K=T xs.length∧∀ i,i<xs.length→cq i=false)∨∃ j,j<xs.length∧cq j=true∧(∀ i,i<j→cq i=false)∧o = .ret (.bool true)∧K=T (j+1)):=by
 refine bE.bj ai Tryz.func266 C C fun s I=>?_
 refine dL ?_;refine aa.b9 rfl rfl rfl rfl rfl (Vz fv xs T cq aB h) I (aH.all _) ?_ (fun _ _ h _=>by rcases h with ⟨h,_⟩|⟨_,_,_,_,h,_⟩<;>cases h);rintro _ _ (⟨⟨⟩,rfl,U⟩|⟨j,U,ae,an,⟨⟩,rfl⟩) I
 all_goals rw [d7] at I ⊢
 ·refine eD ?_
  exact Fin.bz I C aM (aH.all _) (.inl ⟨rfl,rfl,U⟩)
 ·refine eD ?_
  exact Fin.bz I C (by simp;exact aM) (aH.all _) (.inr ⟨j,U,ae,an,rfl,rfl⟩)
theorem VB (fv:af) (q:cg→Bool) (xs:List cg) (aB:xs.length<bu) (h:∀ x∈xs,eE d0 fv [h4 x] (.bool (q x))) :
  aR d0 266 [.aC 7 (xs.map h4) .bc,fv] (.bool (xs.any q)):=
 Au (fun T cq en=>VA fv xs T cq aB en) h
theorem VC (a b:List cg) (aB:a.length+b.length<bu) (a8:∀ x∈a,x.1.size<bu) (mB:∀ x∈b,x.1.size<bu):aR d0 246 [.aC 7 (a.map h4) .bc,.aC 7 (b.map h4) .bc] (.aC 7 ((jP a b).map h4) .bc):=by
 have aq:=bC;refine aR.bj ai Tryz.func246 C C fun s I=>?_
 have U:=Vy a .bc ag;have hlen:∀ j,(jP a (b.take j)).length≤a.length+j:=fun j=>by
  have:=G0 (b.take j) a;have:=List.length_take_le j b;omega
 have gb:∀ j,∀ x∈jP a (b.take j),x.1.size<bu:=fun j x ab=>by
  rcases Ds _ _ ab with h|h
  ·exact a8 x h
  ·exact mB x (am1 h)
 refine dL ?_;refine aa.b9 rfl rfl rfl rfl rfl U I (aH.all _) ?_ (fun _ _ ⟨_,h,_⟩ _=>by cases h);rintro _ _ ⟨VD,⟨⟩,rfl⟩ I;rw [d7] at I ⊢;refine bB ?_;refine ad.b0 [10,11] C I (σ:=Nat×bM) (fun q=>[(12,.int .i64 (q.1:Int)),(5,.aC 7 ((jP a (b.take q.1)).map h4) q.2)]) (fun q=>[(q.2,.row 289 7 (jP a (b.take q.1)).length)]) (fun q=>q.1≤b.length) (fun q=>b.length-q.1) (0,VD) (g7 _) (ck C) aY ?_;rintro ⟨j,own⟩ aK I;simp only at aK I ⊢;refine b2 ?_;refine ad.cond C (fun ar=>?_) (fun aV=>?_);rotate_left
 ·have aV:j=b.length:=by simp at aV;omega
  subst aV;rw [ac6];refine dB ?_;exact Fin.cp I C aS.bc
 have ar:j<b.length:=by simpa using ar
 obtain ⟨x,ab,bL⟩:=bV (f:=h4) ar;have au:jP a (b.take (j+1))=q2 (jP a (b.take j)) x:=by
  unfold jP;rw [iH ab,am6];rfl
 unfold q2 at au;have cY:=mB x (d5 ab);have lN:=hlen j;have qw:=gb j;generalize dJ:jP a (b.take j)=out at I au lN qw ⊢;have aA:=VB (.func 267 [] [.bA (pX x) 0]) (wY x) out ag (fun y ay=>Vw x y cY (qw y ay));cases av:out.any (wY x) with
 | true=>
  rw [av] at aA;rw [av,f9 C] at au;refine ea ?_;exact bn.mk (j+1,own) I ar j1 (by show aH _ [(_,.row _ _ (jP a (b.take (j+1))).length)] _;rw [au];exact aH.du _) (by show b.length-(j+1)<b.length-j;omega)
 | false=>
  rw [av] at aA;rw [av,d9 ba] at au;refine ea ?_;refine aa.gf ai I C C C C C C C et C C C C C C C C a1 hc (by show (_+1)*88≤_;omega) ag (fun bR I=>?_);refine fu ?_;exact bn.mk (j+1,.own bR) I ar (by repeat (first|exact trivial|refine ⟨⟨_,rfl,aM⟩,?_⟩|refine ⟨⟨_,rfl,aS.of_eq (by (first|rw [jv ag]|(rw [au,ac2];rfl)))⟩,?_⟩)) (by show aH _ [(_,.row _ _ (jP a (b.take (j+1))).length)] _;rw [au,f8,ae6];exact aH.du _) (by show b.length-(j+1)<b.length-j;omega)
end Go.Proofs.YtnafpeohfbglmaaGreat
namespace Go.cW
theorem dt.args {P:Program} {fv:af} {xs ys:List af} {K:a'} {acv:eB→a'→Prop} (h:cR xs ys) (k:dt P fv ys K acv):dt P fv xs K acv:=
 fun s I w p v vs cd av aF=>k s I w p v vs cd av (h.rel aF)
end Go.cW
namespace Go.Proofs.YtnafpeohfbglmaaGreat
open Go.cW Go.dv
def VE (eb:Nat):af := .func 243 [] [.ptr eb 0]
abbrev p6 (l:List cg):af := .aC 7 (l.map h4) .bc
def sa (eb:Nat):dG := .box 287 [VE eb]
def AT {α:Type} (Go:List α→a'→Prop) (fD:a'→Prop) (fJ:af→a'→Prop) (rem:List α) (o:eB) (aO:a'):Prop:=
 (o = .ret (.bool true)∧Go rem aO)∨(o = .ret (.bool false)∧fD aO)∨∃ v,o = .panic v∧fJ v aO
structure AU (eb:Nat) (fv:af) (Go:List (List cg)→a'→Prop) (fD:a'→Prop) (fJ:af→a'→Prop):Prop where
 one:cellsOf fv=some [fv]
 call:∀ x rem K,Go (x::rem) K→dt d0 fv [p6 x] K (AT Go fD fJ rem)
 q4:∀ xs K,Go xs K→∃ R,bp K (.own eb) (sa eb) R
 wZ:∀ K,fD K→∃ R,bp K (.own eb) (sa eb) R
theorem VF {eb:Nat} {fv:af} {Go:List (List cg)→a'→Prop} {fD:a'→Prop} {fJ:af→a'→Prop} (en:AU eb fv Go fD fJ) (a z:List cg) (aB:a.length+z.length<bu) (a8:∀ x∈a,x.1.size<bu) (bO:∀ x∈z,x.1.size<bu) (rem:List (List cg)) (K:a') (dE:Go (jP a z::rem) K) :
  dt d0 (.func 245 [] [.bA [fv] 0,.bA [p6 a] 0]) [p6 z] K (AT Go fD fJ rem):=by
 refine dt.fp (first:=[]) (cap:=[.bA [fv] 0,.bA [p6 a] 0]) ?_;refine bE.bj ai Tryz.func245 C C fun s I=>?_
 have U:=VC a z aB a8 bO;have ae:=en.call _ _ _ dE;refine oX ?_;refine aJ.TN C C C C C C C ae I (aH.all _) ?_ ?_
 ·rintro x aO (⟨⟨⟩,aw⟩|⟨⟨⟩,ax⟩|⟨_,⟨⟩,_⟩) I
  all_goals rw [d7] at I ⊢
  ·refine hk ?_
   exact Fin.bz I C aM (aH.all _) (.inl ⟨rfl,aw⟩)
  ·refine hk ?_
   exact Fin.bz I C aM (aH.all _) (.inr (.inl ⟨rfl,ax⟩))
 ·rintro x aO (⟨h,_⟩|⟨h,_⟩|⟨v,⟨⟩,aE⟩) I
  ·cases h
  ·cases h
  rw [d7] at I ⊢;exact Fin.fc I aM (aH.all _) (.inr (.inr ⟨_,rfl,aE⟩))
theorem VG (w:bx) (eb:Nat):∀ (n:Nat) (f:aj),f.size≤n→n<bu→gi w f=true→∀ (b:Bool) (fv:af) (Go:List (List cg)→a'→Prop) (fD:a'→Prop) (fJ:af→a'→Prop),AU eb fv Go fD fJ →
  ∀ (rest:List (List cg)) (K:a'),Go (h5 b f++rest) K→bE d0 243 [f.bJ,.bool b,fv,.ptr eb 0] K (AT Go fD fJ rest):=by
 have aq:=bC;intro n
 induction n with
 | zero=>intro x h;have:=x.size_eq;omega
 | succ n a6=>
  intro f az iP aw b fv Go fD fJ en rest K dE;obtain ⟨R,au⟩:=en.q4 _ _ dE;have uV:=en.one;have iv:=f.size_eq;have gp:=Mh b f;rw [m0,f7] at aw;obtain ⟨oi,kq⟩:=aw;have hK:=GC f;rw [aj.bW] at hK;refine bE.bj ai Tryz.func243 C C fun s I=>?_
  rw [aj.bW];rcases yy oi with ⟨U,ae⟩|⟨aB,ae,U⟩|⟨U,x,ae⟩|⟨U,x,y,ae⟩
  ·rw [gp,U,f9 C] at dE
   unfold aj.cells;rw [U];cases b with
   | true=>
    refine jM ?_;refine aa.jL I C C C C C uV (fun q5 I=>?_);refine aa.mo I 6 q5 C .here (fun I=>?_);refine bB ?_;exact Fin.bz I C aM (aH.all _) (.inl ⟨rfl,dE⟩)
   | false=>
    have an:=dt.args (show cR [.aC 0 [] .nil] [p6 []] from .one aS.empty) (en.call _ _ _ dE);refine jM ?_;refine aa.jL I C C C C C uV (fun q5 I=>?_);refine aa.mo I 6 q5 C .here (fun I=>?_);refine bB ?_;refine aa.gM C C C C C C an I (aH.all _) ?_ ?_
    ·rintro x aO (⟨⟨⟩,aw⟩|⟨⟨⟩,ax⟩|⟨_,⟨⟩,_⟩) I
     all_goals rw [d7] at I ⊢
     ·refine e5 ?_
      exact Fin.bz I C aM (aH.all _) (.inl ⟨rfl,aw⟩)
     ·refine e5 ?_
      exact Fin.bz I C aM (aH.all _) (.inr (.inl ⟨rfl,ax⟩))
    ·rintro x aO (⟨h,_⟩|⟨h,_⟩|⟨v,⟨⟩,aE⟩) I
     ·cases h
     ·cases h
     rw [d7] at I ⊢;exact Fin.fc I aM (aH.all _) (.inr (.inr ⟨_,rfl,aE⟩))
  ·rw [gp,d9 ag,d9 ag,f9 aB] at dE
   rw [aB] at hK;have c7:(f.op==1)=false:=by simp;omega
   have dh:(f.op==5)=false:=by simp;omega
   have an:=dt.args (show cR [.aC 7 [h4 (f,b)] .clip] [p6 [(f,b)]] from .one aS.bc) (en.call _ _ _ dE);unfold h4 pX aj.cells at an;unfold aj.cells;refine jM ?_;refine aa.jL I C C C C C uV (fun q5 I=>?_);refine aa.mo I 6 q5 C .here (fun I=>?_);refine bB ?_;refine ad.cond C (fun h=>by rw [c7] at h;cases h) (fun _=>?_);refine b2 ?_;refine ad.cond C (fun h=>by rw [dh] at h;cases h) (fun _=>?_);refine c3 ?_;refine aa.gM C C C C C C an I (aH.all _) ?_ ?_
   ·rintro x aO (⟨⟨⟩,aw⟩|⟨⟨⟩,ax⟩|⟨_,⟨⟩,_⟩) I
    all_goals rw [d7] at I ⊢
    ·refine e5 ?_
     exact Fin.bz I C aM (aH.all _) (.inl ⟨rfl,aw⟩)
    ·refine e5 ?_
     exact Fin.bz I C aM (aH.all _) (.inr (.inl ⟨rfl,ax⟩))
   ·rintro x aO (⟨h,_⟩|⟨h,_⟩|⟨v,⟨⟩,aE⟩) I
    ·cases h
    ·cases h
    rw [d7] at I ⊢;exact Fin.fc I aM (aH.all _) (.inr (.inr ⟨_,rfl,aE⟩))
  ·have ab:=aj.hx (l:=f.kids) (x:=x) jk
   have i1:=a6 x ag ag (jy kq jk) (!b) fv Go fD fJ en rest K;have cb:([x].map aj.bJ)[0]? = some (.agg x.cells):=by rw [← aj.bW];rfl
   rw [gp,U,d9 ag,f9 C,ae,tF _ 0 [x] x C] at dE;have i1:=dt.fp (first:=[]) (args:=[x.bJ,.bool (!b),fv]) (cap:=[.ptr eb 0]) (i1 dE);rw [aj.bW] at i1;unfold sa at au;unfold aj.cells;rw [U,ae];refine jM ?_;refine aa.jL I C C C C C uV (fun q5 I=>?_);refine aa.mo I 6 q5 C .here (fun I=>?_);refine aa.run ai C (aa.nil ?_)
   repeat (first
    | refine ad.qP I eb au ai mixed C ?_
    | with_reducible apply ad.seq
    | with_reducible apply bY
    | with_reducible apply fg
    | with_reducible apply ad.block
    | refine ad.e8 C ?_
    | refine ad.gr C ?_
    | refine cT C ?_
    | refine ad.skip ?_)
   refine c3 ?_;refine aJ.Ax C C C C C C C i1 I (aH.all _) (fun x aO h=>?_) ?_ ?_
   ·rw [d7]
    rcases h with ⟨_,h⟩|⟨_,h⟩|⟨_,h,_⟩
    ·exact en.q4 _ _ h
    ·exact en.wZ _ h
    ·cases h
   ·rintro x aO (⟨⟨⟩,aw⟩|⟨⟨⟩,ax⟩|⟨_,⟨⟩,_⟩) I
    all_goals rw [d7] at I ⊢
    ·refine hk ?_
     exact Fin.bz I C aM (aH.all _) (.inl ⟨rfl,aw⟩)
    ·refine hk ?_
     exact Fin.bz I C aM (aH.all _) (.inr (.inl ⟨rfl,ax⟩))
   ·rintro x aO (⟨h,_⟩|⟨h,_⟩|⟨v,⟨⟩,aE⟩) I
    ·cases h
    ·cases h
    rw [d7] at I ⊢;exact Fin.fc I aM (aH.all _) (.inr (.inr ⟨_,rfl,aE⟩))
  ·have ab:=aj.hx (l:=f.kids) (x:=x) jk
   have ay:=aj.hx (l:=f.kids) (x:=y) o4;have i1:=a6 x ag ag (jy kq jk) b;have i2:=a6 y ag ag (jy kq o4) b;have cb:([x,y].map aj.bJ)[0]? = some (.agg x.cells):=by rw [← aj.bW];rfl
   have b1:([x,y].map aj.bJ)[1]? = some (.agg y.cells):=by rw [← aj.bW];rfl
   have nX:f.cU=false:=by unfold aj.cU;simp;omega
   have G2:=uY f.kids b;have uZ:=Mj f.kids b;rw [nX] at hK;have abK:=dE;rw [gp,d9 ag,d9 ag,d9 (by rw [nX];simp),ae,tF _ 0 [x,y] x C,tF _ 1 [x,y] y C] at dE;rw [ae] at G2 uZ;have Ml:=G2 0;have Mm:=G2 1;rw [tF _ 0 [x,y] x C] at Ml;rw [tF _ 1 [x,y] y C] at Mm;rw [tF _ 0 [x,y] x C,tF _ 1 [x,y] y C] at uZ;have ca:aj.hv [x,y]<bu:=by rw [← ae];omega
   unfold sa at au;unfold aj.cells at hK ⊢;by_cases G3:b=decide (f.op=6)
   ·rw [f9 G3,ae'] at dE
    have w0:=dt.fp (first:=[]) (args:=[x.bJ,.bool b,fv]) (cap:=[.ptr eb 0]) (i1 fv Go fD fJ en _ K dE);have lF:=fun K dE=>dt.fp (first:=[]) (args:=[y.bJ,.bool b,fv]) (cap:=[.ptr eb 0]) (i2 fv Go fD fJ en rest K dE)
    rw [aj.bW] at w0 lF;have c7:(f.op==1)=false:=by simp;omega
    have dh:(f.op==5)=false:=by simp;omega
    have e3:(b==(f.op==6))=true:=by rw [G3];by_cases fk:f.op=6<;>simp [fk]
    rw [ae] at hK ⊢;refine jM ?_;refine aa.jL I C C C C C uV (fun q5 I=>?_);refine aa.mo I 6 q5 C .here (fun I=>?_);refine bB ?_;refine ad.cond C (fun h=>by rw [c7] at h;cases h) (fun _=>?_);refine b2 ?_;refine ad.cond C (fun h=>by rw [dh] at h;cases h) (fun _=>?_);refine bZ ?_;refine ad.cond C (fun _=>?_) (fun h=>by rw [e3] at h;cases h)
    repeat (first
     | refine ad.qP I eb au ai mixed C ?_
     | with_reducible apply ad.seq
     | with_reducible apply bY
     | with_reducible apply fg
     | with_reducible apply ad.block
     | refine ad.e8 C ?_
     | refine ad.gr C ?_
     | refine cT C ?_
     | refine ad.skip ?_)
    refine c3 ?_;refine aJ.Ax C C C C C C C w0 I (aH.all _) (fun x aO h=>?_) ?_ ?_
    ·rw [d7]
     rcases h with ⟨_,h⟩|⟨_,h⟩|⟨_,h,_⟩
     ·exact en.q4 _ _ h
     ·exact en.wZ _ h
     ·cases h
    rotate_left
    ·rintro x aO (⟨h,_⟩|⟨h,_⟩|⟨v,⟨⟩,aE⟩) I
     ·cases h
     ·cases h
     rw [d7] at I ⊢;exact Fin.fc I aM (aH.all _) (.inr (.inr ⟨_,rfl,aE⟩))
    rintro _ aO (⟨⟨⟩,aw⟩|⟨⟨⟩,ax⟩|⟨_,h,_⟩) I
    ·rw [d7] at I ⊢
     refine c3 ?_;refine aJ.Ax C C C C C C C (lF _ aw) I (aH.all _) (fun x aO h=>?_) ?_ ?_
     ·rw [d7]
      rcases h with ⟨_,h⟩|⟨_,h⟩|⟨_,h,_⟩
      ·exact en.q4 _ _ h
      ·exact en.wZ _ h
      ·cases h
     ·rintro x aO (⟨⟨⟩,aw⟩|⟨⟨⟩,ax⟩|⟨_,⟨⟩,_⟩) I
      all_goals rw [d7] at I ⊢
      ·refine hk ?_
       exact Fin.bz I C aM (aH.all _) (.inl ⟨rfl,aw⟩)
      ·refine hk ?_
       exact Fin.bz I C aM (aH.all _) (.inr (.inl ⟨rfl,ax⟩))
     ·rintro x aO (⟨h,_⟩|⟨h,_⟩|⟨v,⟨⟩,aE⟩) I
      ·cases h
      ·cases h
      rw [d7] at I ⊢;exact Fin.fc I aM (aH.all _) (.inr (.inr ⟨_,rfl,aE⟩))
    ·rw [d7] at I ⊢
     refine hk ?_;exact Fin.bz I C aM (aH.all _) (.inr (.inl ⟨rfl,ax⟩))
    ·cases h
   ·rw [d9 G3] at dE
    have c7:(f.op==1)=false:=by simp;omega
    have dh:(f.op==5)=false:=by simp;omega
    have e3:(b==(f.op==6))=false:=by
     cases b<;>simp_all
    have VH:∀ (a:List cg) (rest:List (List cg)),a∈h5 b x→AU eb (.func 245 [] [.bA [fv] 0,.bA [p6 a] 0]) (fun a1 K=>(∀ z∈a1,z∈h5 b y)∧Go (a1.map (jP a)++rest) K) fD fJ:=fun a rest a8=>by
     refine ⟨rfl,fun z rem K ⟨bO,aw⟩=>?_,fun xs K h=>en.q4 _ _ h.2,en.wZ⟩;have G4:=bO z i7;refine dt.mono (VF en a z (by have:=uZ a z a8 G4;omega) (fun u hu=>by have:=(Ml a a8).2 u hu;omega) (fun u hu=>by have:=(Mm z G4).2 u hu;omega) (rem.map (jP a)++rest) K aw) ?_;rintro o aO (⟨U,h⟩|h|h)
     ·exact .inl ⟨U,fun z qQ=>bO z (i5 _ qQ),h⟩
     ·exact .inr (.inl h)
     ·exact .inr (.inr h)
    have VI:AU eb (.func 244 [] [.ptr eb 0,.bA f.cells 0,.bA [.bool b] 0,.bA [fv] 0]) (fun xs K=>(∀ a∈xs,a∈h5 b x)∧Go ((xs.flatMap fun a=>(h5 b y).map (jP a))++rest) K) fD fJ:=by
     refine ⟨rfl,fun a rem K ⟨a8,aw⟩=>?_,fun xs K h=>en.q4 _ _ h.2,en.wZ⟩;obtain ⟨R,au⟩:=en.q4 _ _ aw;unfold sa at au;refine dt.fp (first:=[]) (cap:=[.ptr eb 0,.bA f.cells 0,.bA [.bool b] 0,.bA [fv] 0]) ?_;refine bE.bj ai Tryz.func244 C C fun s I=>?_
     rw [List.flatMap_cons,ae'] at aw;have lF:=dt.fp (first:=[]) (args:=[y.bJ,.bool b,.func 245 [] [.bA [fv] 0,.bA [p6 a] 0]]) (cap:=[.ptr eb 0]) (i2 _ _ fD fJ (VH a ((rem.flatMap fun a=>(h5 b y).map (jP a))++rest) (a8 a i7)) [] K ⟨fun z bO=>by rw [d7] at bO;exact bO,by rw [d7];exact aw⟩);rw [aj.bW] at lF;unfold aj.cells;rw [ae];unfold aj.cells at lF
     repeat (first
      | refine ad.qP I eb au ai mixed C ?_
      | with_reducible apply ad.seq
      | with_reducible apply bY
      | with_reducible apply fg
      | with_reducible apply ad.block
      | refine ad.e8 C ?_
      | refine ad.gr C ?_
      | refine cT C ?_
      | refine ad.skip ?_)
     refine c3 ?_;refine aJ.Ax C C C C C C C lF I (aH.all _) (fun x aO h=>?_) ?_ ?_
     ·rw [d7]
      rcases h with ⟨_,h⟩|⟨_,h⟩|⟨_,h,_⟩
      ·exact en.q4 _ _ h.2
      ·exact en.wZ _ h
      ·cases h
     ·rintro x aO (⟨⟨⟩,aw⟩|⟨⟨⟩,ax⟩|⟨_,⟨⟩,_⟩) I
      all_goals rw [d7] at I ⊢
      ·refine hk ?_
       exact Fin.bz I C aM (aH.all _) (.inl ⟨rfl,fun z bO=>a8 z (i5 _ bO),aw.2⟩)
      ·refine hk ?_
       exact Fin.bz I C aM (aH.all _) (.inr (.inl ⟨rfl,ax⟩))
     ·rintro x aO (⟨h,_⟩|⟨h,_⟩|⟨v,⟨⟩,aE⟩) I
      ·cases h
      ·cases h
      rw [d7] at I ⊢;exact Fin.fc I aM (aH.all _) (.inr (.inr ⟨_,rfl,aE⟩))
    have w0:=dt.fp (first:=[]) (args:=[x.bJ,.bool b,.func 244 [] [.ptr eb 0,.bA f.cells 0,.bA [.bool b] 0,.bA [fv] 0]]) (cap:=[.ptr eb 0]) (i1 _ _ fD fJ VI [] K ⟨fun z bO=>by rw [d7] at bO;exact bO,by rw [d7];exact dE⟩);rw [aj.bW] at w0;unfold aj.cells at w0;rw [ae] at w0 hK ⊢;refine jM ?_;refine aa.jL I C C C C C uV (fun q5 I=>?_);refine aa.mo I 6 q5 C .here (fun I=>?_);refine bB ?_;refine ad.cond C (fun h=>by rw [c7] at h;cases h) (fun _=>?_);refine b2 ?_;refine ad.cond C (fun h=>by rw [dh] at h;cases h) (fun _=>?_);refine bZ ?_;refine ad.cond C (fun h=>by rw [e3] at h;cases h) (fun _=>?_)
    repeat (first
     | refine ad.qP I eb au ai mixed C ?_
     | with_reducible apply ad.seq
     | with_reducible apply bY
     | with_reducible apply fg
     | with_reducible apply ad.block
     | refine ad.e8 C ?_
     | refine ad.gr C ?_
     | refine cT C ?_
     | refine ad.skip ?_)
    refine c3 ?_;refine aJ.Ax C C C C C C C w0 I (aH.all _) (fun x aO h=>?_) ?_ ?_
    ·rw [d7]
     rcases h with ⟨_,h⟩|⟨_,h⟩|⟨_,h,_⟩
     ·exact en.q4 _ _ h.2
     ·exact en.wZ _ h
     ·cases h
    ·rintro x aO (⟨⟨⟩,aw⟩|⟨⟨⟩,ax⟩|⟨_,⟨⟩,_⟩) I
     all_goals rw [d7] at I ⊢
     ·refine hk ?_
      exact Fin.bz I C aM (aH.all _) (.inl ⟨rfl,aw.2⟩)
     ·refine hk ?_
      exact Fin.bz I C aM (aH.all _) (.inr (.inl ⟨rfl,ax⟩))
    ·rintro x aO (⟨h,_⟩|⟨h,_⟩|⟨v,⟨⟩,aE⟩) I
     ·cases h
     ·cases h
     rw [d7] at I ⊢;exact Fin.fc I aM (aH.all _) (.inr (.inr ⟨_,rfl,aE⟩))
end Go.Proofs.YtnafpeohfbglmaaGreat
