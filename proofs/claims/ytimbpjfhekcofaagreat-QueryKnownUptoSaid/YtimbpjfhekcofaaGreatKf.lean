import Derived.Test.YtimbpjfhekcofaaGreatKe
import Derived.Laws.Bits64
set_option linter.unusedVariables false
set_option linter.unusedSimpArgs false
set_option maxRecDepth 100000
set_option maxHeartbeats 4000000
open Array renaming getD_eq_getD_getElem?→ak1,getElem?_eq_some_iff→t6,length_toList→ai8,toArray_toList→as1
open Bool renaming and_eq_true_iff→at0,and_eq_true→d6,and_true→as0,eq_false_iff→am5,eq_iff_iff→aj3,false_and→aa',false_eq_true→aj2,false_or→ak4,not_eq_true'→aj7,not_false→an4,or_assoc→ap3,or_eq_true→aj',or_false→ao3,true_and→i8,true_or→ar'
open Int renaming le_refl→ap8,sub_zero→aI7,toNat_natCast→ai7
open Go.IntKind renaming wrap→ai'
open List renaming Pairwise→aH5,all_cons→aq6,all_eq_true→ai4,all_nil→ax',any_cons→ak',any_eq_false→al2,any_eq_true→ai6,any_nil→ax9,append_assoc→aj0,append_nil→d7,cons_append→d5,contains_iff_mem→am',count_cons→aG3,count_le_length→aD0,drop_eq_nil_of_le→as3,drop_replicate→aw',drop_zero→aq9,drop→aH0,ext_getElem?→ar0,filter_cons→an1,findIdx?_eq_none_iff→am6,findIdx?_eq_some_iff_getElem→ak8,flatMap_cons→am0,flatten_cons→aw0,foldl_cons→ak9,getD_eq_getElem?_getD→d9,getElem?_append_left→ak3,getElem?_append_right→ak0,getElem?_eq_getElem→f8,getElem?_eq_none→am9,getElem?_eq_some_iff→ac',getElem?_map→aj6,getElem?_of_mem→an6,getElem?_range→at5,getElem?_replicate→as2,getElem?_set→av',getElem?_take→al',getElem_mem→an9,length_append→f0,length_cons→i9,length_drop→an0,length_filter_le→al8,length_map→f6,length_nil→ai9,length_replicate→am3,length_set→an2,length_take→ah',map_append→t8,map_cons→ai2,map_nil→aj5,map_take→at2,mem_append→ab',mem_cons_of_mem→f9,mem_cons_self→g8,mem_cons→ai1,mem_filter→aj1,mem_map→ae',mem_mergeSort→aA1,mem_of_find?_eq_some→al6,mem_of_getElem?→d8,mem_range→al4,mem_singleton→i7,nil_append→d0,nodup_append→an',nodup_cons→ar3,nodup_nil→at7,pairwise_cons→aA0,range→ak6,replicate→ai0,size_toArray→ap2,take_append_drop→am2,take_append_of_le_length→al5,take_left'→ao9,take_length→ag',take_of_length_le→am4,take_zero→an7
open Nat renaming add_comm→as9,add_mul→ao2,add_zero→as8,beq→aj4,blt→af',eq_of_beq_eq_true→ai3,le_refl→t7,lt_succ_iff_lt_or_eq→am1,min_eq_left→ar2,mul_le_mul_right→ao8,mul_one→am8,not_lt_zero→av2,shiftRight_eq_div_pow→au2,succ_mul→aB2,zero_add→aj8,zero_le→g9
open Option renaming bind_some→ar6,getD_some→al1,map_some→an8,some→ap7
open Go.Result renaming andThen_ok→i0
open Go.Sem renaming run_bind→H1,run_pure→ai5
open Go.Proofs.Tryz renaming prog→d4
namespace Go.Proofs.YtimbpjfhekcofaaGreat
theorem E0 {p:Prop} (h:p:=by repeat (first|exact trivial|refine ⟨⟨_,rfl,aH⟩,?_⟩|refine ⟨⟨_,rfl,aR.of_eq (by (first|rw [lo (by omega)]|(rw [fD ax,MX,m6,m6];congr 1;split<;>omega)))⟩,?_⟩)):p:=h
theorem E1 {p:Prop} (h:p:=by repeat (first|exact trivial|refine ⟨⟨_,rfl,aH⟩,?_⟩|refine ⟨⟨_,rfl,aR.of_eq (by (first|rfl|(rw [aE];simp [m6,bp aE])|(rw [aE];simp [m6])))⟩,?_⟩)):p:=h
theorem E2 {p:Prop} (h:p:=by repeat (first|exact trivial|refine ⟨⟨_,rfl,aH⟩,?_⟩|refine ⟨⟨_,rfl,aR.of_eq (by (rw [jS]))⟩,?_⟩)):p:=h
theorem PX {p:Prop} (h:p:=by rw [ax,Int.toNat_natCast,List.getD_eq_getElem?_getD,List.getElem?_eq_getElem (by omega)];rfl):p:=h
theorem I0 {p:Prop} (h:p:=by show az _ [(_,.row _ _ (xs (j+1)).length)] _;rw [dt];exact az.fQ _):p:=h
theorem I1 {p:Prop} (h:p:=by show dK.parents.length-(k+1)<dK.parents.length-k;omega):p:=h
theorem r8 {p:Prop} (h:p:=by show p.methods.length-(j+1)<p.methods.length-j;omega):p:=h
theorem B8 {p:Prop} (h:p:=by show p.ch.length-(j+1)<p.ch.length-j;omega):p:=h
theorem I2 {p:Prop} (h:p:=by (rw [hf (by omega) (by omega)];push_cast;rfl)):p:=h
theorem kG {p:Prop} (h:p:=by show f.kids.length-(j+1)<f.kids.length-j;omega):p:=h
theorem I3 {p:Prop} (h:p:=by show x.kids.length-(j+1)<x.kids.length-j;omega):p:=h
theorem zM {p:Prop} (h:p:=by rw [List.length_map];omega):p:=h
theorem x' {p:Prop} (h:p:=by rw [List.length_map];rfl):p:=h
theorem r9 {p:Prop} (h:p:=by simpa using av):p:=h
def uz:ag := .iface 392 (.agg [])
theorem aaG (_u:Unit):aY d4 282 [.bool true] (.bW []):=by
 have aq:=bx;refine aY.bj ah Tryz.func282 C C fun s I=>?_
 refine bd ?_;exact b2 I
theorem aaH (_u:Unit):bs d4 282 [.bool false] ([]) (fun o K=>o = .panic uz∧K=[]):=by
 have aq:=bx;refine bs.bj ah Tryz.func282 C C fun s I=>?_
 refine bd ?_;refine ab.panic C C C C ?_;exact Fin.e1 I aH .nil ⟨rfl,rfl⟩
theorem PY (n:Int):aY d4 328 [.int .i64 n] (.bool (lr n)):=by
 have aq:=bx;refine aY.bj ah Tryz.func328 C C fun s I=>?_
 repeat' (first|(with_reducible first|apply af.seq|apply cg|apply af.ret)|refine e7 C ?_|refine af.cv ?_|refine ab.nil ?_|refine cq C ?_|refine ab.skip C C C ?_|(fail_if_success refine ab.same true C ?_);(fail_if_success refine ab.same false C ?_);refine ab.m3 C C (fun h=>?_) (fun h=>?_))
 all_goals (refine Fin.cZ I C (aR.of_eq (ak5 ag.bool ?_));clear I;unfold lr;grind)
theorem aaI (c:gG) (aw:c.parents.length<bK):cY d4 (.func 290 [] []) [gX c] (br c.parents):=by
 have aq:=bx;refine cY.ey (first:=[]) (cap:=[]) ?_;refine aY.bj ah Tryz.func290 C C fun s I=>?_
 have U:=vB c.parents .a7 aw;unfold gX sX br at *;refine gw ?_;exact b2 I
theorem aaJ (cs:List gG) (aE:cs.length<bK) (iC:∀ c∈cs,c.parents.length<bK):aY d4 289 [.aF 3 (cs.map gX) .a7,.func 290 [] []] (fk (cs.map gG.parents)):=by
 have aq:=bx;refine aY.bj ah Tryz.func289 C C fun s I=>?_
 obtain ⟨xs,fi⟩:∃ xs:Nat→List ag,∀ j,xs j=((cs.take j).map gG.parents).map br:=⟨_,fun _=>rfl⟩;have bn:xs 0=[]:=by rw [fi];rfl
 have j1:∀ j,(xs j).length≤cs.length:=fun j=>by
  rw [fi,f6,f6];exact List.length_take_le' _ _
 unfold fk;refine gp ?_;refine af.hv I 23 1 0 fun I=>?_
 refine af.cc [1,8,9] C I (σ:=Nat×bM) (fun q=>[(10,.int .i64 (q.1:Int)),(5,.aF 1 (xs q.1) q.2)]) (fun q=>[(q.2,.row 23 1 (xs q.1).length)]) (fun q=>q.1≤cs.length) (fun q=>cs.length-q.1) (0,.nil) (g9 _) ⟨⟨_,rfl,aH⟩,⟨_,rfl,by rw [bn];exact aR.nil gF⟩,trivial⟩ (by rw [bn];exact az.fQ _) ?_;rintro ⟨j,own⟩ aK I;simp only at aK I ⊢;refine cl ?_;refine af.cond C (fun au=>?_) (fun aV=>?_);rotate_left;have aV:j=cs.length:=by
  have:cs.length≤j:=by simpa using aV
  omega
 ·subst aV
  have he:xs cs.length=(cs.map gG.parents).map br:=by rw [fi,ag']
  rw [he];have PZ:=XY ((cs.map gG.parents).map br) own;refine dS ?_;exact Fin.cZ I C aR.a7
 have au:j<cs.length:=by simpa using au
 obtain ⟨c,ar,cf⟩:=b' (f:=gX) au;have al:=fi (j+1);rw [fD ar,t8,t8,← fi] at al;have al:xs (j+1)=xs j++[.aF 1 (c.parents.map ba) .a7]:=al;have dt:(xs (j+1)).length=(xs j).length+1:=by rw [al];simp
 have mh:=j1 j;have Eg:=aaI c (iC c (d8 ar));unfold gX sX br at *;refine ej ?_;refine ab.gn ah I C C C C C C C dB C C C C C C C C aO h' (by show (_+1)*24≤_;omega) ak (fun b1 I=>?_);refine iQ ?_;refine bA.mk (j+1,.own b1) I au mw I0 (by show cs.length-(j+1)<cs.length-j;omega)
structure e3 (p:aU):Prop where
 cls:p.ch.length<bK
 each:∀ c∈p.ch,c.parents.length<bK∧c.bB.length<bK∧c.inits.length<bK
 dX:p.dX.length<bK
 ya:p.methods.length<bK
 facts:∀ m∈p.methods,3*m.fact.size+3<bK
 nodes:p.nodes.length<bK
 kids:∀ x∈p.nodes,x.kids.length<bK
theorem I4 (p:aU) (aB:e3 p):aY d4 229 [cQ p] (fk (gY p)):=by
 have aq:=bx;refine aY.bj ah Tryz.func229 C C fun s I=>?_
 have U:=aaJ p.ch aB.cls (fun c h=>(aB.each c h).1);unfold cQ cj;unfold fk gY at *;refine gw ?_;exact b2 I
theorem P0:∀ (l:List gG) (i:Nat) (c:gG),gI i (l++[c])=gI i l++ai0 c.bB.length (((i+l.length:Nat):Int)+3)
  | [],i,c=>by simp [gI]
  | x::r,i,c=>by
    rw [d5,gI,P0 r (i+1) c,gI,aj0];congr 3;rw [i9];omega
theorem aaK {l:List gG} {j:Nat} {c:gG} (h:l[j]? = some c):gI 0 (l.take (j+1))=gI 0 (l.take j)++ai0 c.bB.length ((j:Int)+3):=by
 rw [fD h,P0];have:=sW h;rw [ah',ar2 ak,aj8]
theorem aaL (l:List gG) (j:Nat):(gI 0 (l.take j)).length≤(gI 0 l).length:=by
 have key:∀ (l:List gG) (i j:Nat),(gI i (l.take j)).length≤(gI i l).length:=by
  intro l
  induction l with
  | nil=>intro i j;simp [gI]
  | cons c r a8=>
   intro i j;cases j with
   | zero=>simp [gI]
   | succ j=>
    rw [List.take_succ_cons,gI,gI,f0,f0];have:=a8 (i+1) j;omega
 exact key l 0 j
theorem P1 (p:aU) (aB:e3 p) (ai:(gI 0 p.ch).length<bK):aY d4 173 [cQ p] (jD (bU p)):=by
 have aq:=bx;refine aY.bj ah Tryz.func173 C C fun s I=>?_
 have U:=I4 p aB;have cm:=aB.cls;unfold jD fL bU;simp only;unfold cQ cj at *;unfold fk at *
 repeat (first|(refine Hp ?_)|refine ab.h0 I C C C C C C (fun b I=>?_)|refine ab.c3 ah I C C C C C C C (fun cu I=>?_)|(refine WN I ?_;clear I;intro I))
 rename_i P2 _;obtain ⟨I5,rfl⟩:∃ x,x=cu:=⟨_,rfl⟩;refine af.A6 I I5 [.aF 1 ((gY p).map br) .a7,.aF 1 [] .nil] .here (.cons aH (.one (aR.nil gF))) (fun I=>?_);refine af.hv I 3 1 0 fun I=>?_
 refine af.cc [2,3,10,11] C I (σ:=Nat×bM) (fun q=>[(12,.int .i64 (q.1:Int))]) (fun q=>[(.own I5,.box 79 [.aF 1 ((gY p).map br) .a7,.aF 1 ((gI 0 (p.ch.take q.1)).map ba) q.2]),(q.2,.row 3 1 (gI 0 (p.ch.take q.1)).length),(.own P2,.box 79 [.aF 0 [] .nil,.aF 0 [] .nil])])
  (fun q=>q.1≤p.ch.length) (fun q=>p.ch.length-q.1) (0,.nil) (g9 _) (cy C) a' ?_
 rintro ⟨j,yN⟩ aK I;simp only at aK I ⊢;refine iR ?_;refine af.cond C (fun au=>?_) (fun aV=>?_);rotate_left
 ·have aV:j=p.ch.length:=by simp at aV;omega
  subst aV;rw [ag'] at I ⊢;refine c9 I ?_;intro I;exact Fin.cZ I (iS C C (bm.get aO I) C) (aR.agg (.cons aH (.one aR.a7)))
 have au:j<p.ch.length:=by simpa using au
 obtain ⟨c,ar,cf⟩:=b' (f:=gX) au;have iC:=(aB.each c (d8 ar)).2.1;have aN:=aaK ar;have hle:=aaL p.ch (j+1);have jf:ai' .i64 ((j:Int)+3)=(j:Int)+3:=hf ak ak;rw [aN,f0,am3] at hle;generalize gI 0 (p.ch.take j)=os at I aN hle ⊢;unfold gX sX br at cf
 repeat (first|(refine vp I ?_;clear I;intro I)|refine ab.c3 ah I rfl rfl rfl rfl rfl rfl rfl (fun cu I=>?_))
 refine af.cc [2,3,4,10,11,12,18,19] C I (σ:=Nat×bM) (fun q=>[(20,.int .i64 (q.1:Int))]) (fun q=>[(.own I5,.box 79 [.aF 1 ((gY p).map br) .a7,.aF 1 ((os++ai0 q.1 ((j:Int)+3)).map ba) q.2]),(q.2,.row 3 1 (os++ai0 q.1 ((j:Int)+3)).length),(.own P2,.box 79 [.aF 0 [] .nil,.aF 0 [] .nil])])
  (fun q=>q.1≤c.bB.length) (fun q=>c.bB.length-q.1) (0,yN) (g9 _) (cy C) (by simp only [List.replicate_zero,d7];exact a') ?_
 rintro ⟨k,b1⟩ ax I;simp only at ax I ⊢;refine cl ?_;refine af.cond C (fun dA=>?_) (fun fE=>?_);rotate_left
 ·have fE:k=c.bB.length:=by simp at fE;omega
  subst fE;rw [← aN] at I ⊢;refine bd ?_;exact bA.mk (j+1,b1) I au ct a' B8
 have dA:k<c.bB.length:=by simpa using dA
 have hc:(os++ai0 k ((j:Int)+3)).length=os.length+k:=by simp
 have aaM:(os++ai0 (k+1) ((j:Int)+3)).map ba=(os++ai0 k ((j:Int)+3)).map ba++[.int .i64 (ai' .i64 ((j:Int)+3))]:=by rw [jf,List.replicate_succ',← aj0,t8];rfl
 have aaN:(os++ai0 (k+1) ((j:Int)+3)).length=(os++ai0 k ((j:Int)+3)).length+1:=by simp;omega
 refine jB I ?_;intro I;refine ab.gn ah I C C C C C C C dB C C C C C C C C aO bc lP ak (fun nh I=>?_);refine hC I ?_;intro I;exact bA.mk (k+1,.own nh) I dA (by repeat (first|exact trivial|refine ⟨⟨_,rfl,aH⟩,?_⟩|refine ⟨⟨_,rfl,aR.of_eq (by (first|rw [lo ak]))⟩,?_⟩)) (by simp only [aaN,aaM];exact a') (by show c.bB.length-(k+1)<c.bB.length-k;omega)
section
variable {P:Program} {Γ:cz} {N:Nat} {ops:Array Oper} {Q:b8→Env→ao→Prop} {env:Env} {s:ao} {l:List Oper} {o:Oper} {d:Nat} {L R:a6}
theorem P3 (aP:bX P Γ) {w:World} {p:bV} {S:ao} (ca:dn w p S) {t bR e ty:TypeId} {it cT aJ:bQ} {b9:Nat} {olds:List Value} {xs ys:List ag} {dW:bM} {base:Option Addr} {n cap:Nat} {rI:Value}
  (aN:Γ.get? t=some it) (bw:it.bN = .aF e) (dp:Γ.get? bR=some cT) (ed:∀ k,cT.bN ≠ .int k) (bP:Γ.get? e=some aJ) (U:aJ.size=1) (eE:aj4 aJ.zero.cells.size aJ.size=true)
  (aC:b4 w p olds xs) (av:n=xs.length) (tJ:(Builtin.firstCells 1 n (.slice base n cap)).run P w.drew = .ok olds.toArray w.drew) (ar:Rel w p rI (.aF b9 ys dW)) (dN:b9=1) (ew:ys.all eZ=true)
  (au:cap<n+ys.length) (aq:(n+ys.length)*aJ.bytes≤140737488355328) (eR:n+ys.length≤9223372036854775807) :
  ∃ aW b0 cs' w',(Builtin.append_ #[t,bR] ty #[.slice base n cap,rI]).run P w = .ok (.slice (some ⟨aW,0,none⟩) (n+ys.length) b0) w'∧S aW=none∧c2 w p w' p∧Kept S (S.set aW (.box e cs')) w p w' p∧dn w' p (S.set aW (.box e cs')) ∧
   cs'.length=b0∧n+ys.length≤b0∧cs'.take (n+ys.length)=xs++ys:=by
 obtain ⟨info,d,g1,g2,g3,-⟩:=aP.parts aN;obtain ⟨nB,db,dF,c8,du,-⟩:=aP.parts dp;obtain ⟨jv,j0,ck,cL,ev,ee,lj,mg⟩:=aP.parts bP;have aA:d = .slice e:=by rw [bw] at g3;cases d<;>simp [ec] at g3;rw [g3]
 subst aA;have cH:∀ k,db ≠ .int k:=fun k e'=>by subst e';exact ed k du.symm
 obtain ⟨us,hq,oT,jw,jd,sA,sB,sC⟩:=pU ar (.inr dN);have mV:=hq.length;subst dN;have rJ:flat us=us:=qL (oQ hq ew);have er:=growslice_fits (need:=n+ys.length) (old:=cap) (bytes:=aJ.bytes) au aq;have cI:=AS (ty:=ty) w g2 c8 cH ck mg (base:=base) (sLen:=n) (sCap:=cap) (m:=ys.length) (olds:=olds) (news:=us) (jw P)
  (by rw [ee,U];exact tJ) (by rw [ee,U];(conv=>rhs;rw [← rJ]);exact jd P w.drew (fun _ _ _=>rfl)) au ak (by rw [lj];exact er)
 have oe:n+ys.length≤grownCap w (n+ys.length) cap e:=by simp [grownCap,Question.cut]
 have gq:olds.length=n:=by rw [aC.length,av]
 have pQ:=ai3 eE;generalize tK:(Builtin.zeroCells aJ.zero.cells (grownCap w (n+ys.length) cap e-(n+ys.length))).toList=aO at cI;have oU:aO.length=grownCap w (n+ys.length) cap e-(n+ys.length):=by
  rw [← tK,ai8];simp [Builtin.zeroCells,pQ,U]
 generalize grownCap w (n+ys.length) cap e=G at cI oe oU;have xo:=yK ca
 obtain ⟨al,hle,ax,ln⟩:=sx xo (.cells (olds++us++aO).toArray e (0,0)) (.box e (xs++ys++aO.map fun _ => .any)) (fun w' jc aD gm=>⟨_,jc,by
  refine b4.append (b4.append (gm _ _ (show b4 w.drew p olds xs from aC.mono lb)) (gm _ _ (hq.mono lb))) (b4.Be aO),fun o aB=>absurd (ca.lt _ _ aB) (by show ¬ w.heap.size<w.heap.size;omega)⟩)
 rw [show w.drew.heap.size=w.heap.size from rfl] at al ax ln;refine ⟨w.heap.size,G,xs++ys++aO.map (fun _=>ag.any),_,cI,al,lb.trans hle,(wK (w:=w) (p:=p)).trans (lb (w:=w) (p:=p)).size ax,ln,?_,oe,?_⟩
 ·simp only [f0,f6,oU];omega
 ·rw [al5 ez,am4 ez]
theorem aX.I6 (aP:bX P Γ) (I:Ok s L) {t bR e:TypeId} {x y:Operand} {it cT aJ:bQ} {eI b9:Nat} {ys:List ag} {dW:bM}
  (ai:o.op = .call { callee := .builtin .append,args := #[x,y],argTypes := #[t,bR] }) (aN:Γ.get? t=some it) (bw:it.bN = .aF e) (dp:Γ.get? bR=some cT) (ed:∀ k,cT.bN ≠ .int k)
  (bP:Γ.get? e=some aJ) (U:aJ.size=1) (eE:aj4 aJ.zero.cells.size aJ.size=true) (aa:aL env x=some (.aF eI [] .nil)) (ar:aL env y=some (.aF b9 ys dW)) (dN:b9=1) (ew:ys.all eZ=true) (cN:1≤ys.length) (aq:ys.length*aJ.bytes≤140737488355328) (eR:ys.length≤9223372036854775807)
  {X:ag→ao→Prop}:aX P N o env (aT s L) (fun r an=>Grown s L e ys.length ys r an) X:=by
 refine aX.jZ hZ fun ro B a w p aI=>?_
 have fz:=aI.aL aa;have eH:=aI.aL ar;have ef:=fun val w'=>vt (P:=P) (a:=a) (val:=val) (w:=w) (w':=w') ai
 generalize dM:a.eval x=dy at fz ef;generalize fj:a.eval y=fX at eH ef;have xp:dy = .slice none 0 0:=by
  cases fz with
  | iA=>rfl
  | jo a _ _ h=>rcases h with h|h<;>cases h
  | aF g off n cap _ vs _ _ av=>exact absurd C av
 subst xp
 obtain ⟨aW,b0,cs',w',eD,fh,gv,jx,mW,mX,ov,ow⟩:=P3 (ty:=o.type) aP aI.wf (base:=none) (n:=0) (cap:=0) (olds:=[]) (xs:=[]) aN bw dp ed bP U eE .nil rfl (by
  have:=run_firstCells_none (P:=P) w.drew 1 0 0 0
  simpa using this) eH dN ew ak (by simpa using aq) ak
 rw [aj8] at eD ov ow;exact ⟨_,w',_,p,_,ef _ _ eD,gv,jx,mW,⟨aW,b0,cs',rfl,rfl,⟨fh,I⟩,mX,ov,by simpa using ow⟩,.ho _⟩
theorem aX.I7 (aP:bX P Γ) (I:Ok s L) {t bR e:TypeId} {x y:Operand} {it cT aJ:bQ} {b n cap b9:Nat} {cs ys:List ag} {dW:bM}
    (ai:o.op = .call { callee := .builtin .append,args := #[x,y],argTypes := #[t,bR] }) (aN:Γ.get? t=some it) (bw:it.bN = .aF e) (dp:Γ.get? bR=some cT) (ed:∀ k,cT.bN ≠ .int k)
    (bP:Γ.get? e=some aJ) (U:aJ.size=1) (eE:aj4 aJ.zero.cells.size aJ.size=true) (aa:aL env x=some (dv b n cap)) (al:bm L (.own b) (.box e cs) R) (cm:cs.length=cap) (av:n≤cap) (j2:(cs.take n).all eZ=true)
    (ar:aL env y=some (.aF b9 ys dW)) (dN:b9=1) (ew:ys.all eZ=true) (aq:(n+ys.length)*aJ.bytes≤140737488355328) (eR:n+ys.length≤9223372036854775807)
    {X:ag→ao→Prop}:aX P N o env (aT s L) (fun r an=>Grown s R e (n+ys.length) (cs.take n++ys) r an) X:=by
  obtain ⟨bT,bI,eh⟩:=al.perm I;refine aX.jZ hZ fun ro B a w p aI=>?_
  have fz:=aI.aL aa;have eH:=aI.aL ar;have ef:=fun val w'=>vt (P:=P) (a:=a) (val:=val) (w:=w) (w':=w') ai
  generalize dM:a.eval x=dy at fz ef;generalize fj:a.eval y=fX at eH ef;cases fz;obtain ⟨vs,cx,cE,dz⟩:=aI.wf.obj _ _ (al.get I);have gm:vs.toList.length=cap:=by rw [cE.length,cm]
  have iG:=cE.take n;have sQ:=oQ iG j2;have tN:∀ w':World,(∀ j,w'.cell? ⟨b,j,none⟩=w.cell? ⟨b,j,none⟩)→(Builtin.firstCells 1 n (.slice (some ⟨b,0,none⟩) n cap)).run P w' = .ok (vs.toList.take n).toArray w':=by
    intro w' jc;refine run_firstCells_some (P:=P) w' 1 n ⟨b,0,none⟩ n cap (vs.toList.take n) (by rw [ah',gm];omega) (fun j u hu=>?_);rw [lf,aj8,jc,jN cx];rw [al'] at hu;split at hu
    · simpa using hu
    · cases hu
  by_cases au:cap<n+ys.length
  · obtain ⟨aW,b0,cs',w',eD,fh,gv,jx,mW,mX,ov,ow⟩:=P3 (ty:=o.type) aP aI.wf (base:=some ⟨b,0,none⟩) (n:=n) (cap:=cap) (olds:=vs.toList.take n) (xs:=cs.take n) aN bw dp ed bP U eE iG yE
      (tN w.drew fun _=>rfl) eH dN ew au aq eR
    have gC:ao.Sub ((aT s R).set aW (.box e cs')) ((aT s L).set aW (.box e cs')):=by
      refine DQ (k := .own aW) ?_;rw [bT];exact y8 (k := .own b) (ao.pR _) bI
    have ay:aT s R aW=none:=by
      have h:=fh;rw [bT] at h;exact (ao.u7 h).2
    exact ⟨_,w',_,p,_,ef _ _ eD,gv,jx.sub gC,mW.sub gC,⟨aW,b0,cs',rfl,rfl,⟨ay,eh⟩,mX,ov,ow⟩,.ho _⟩
  · obtain ⟨info,d,g1,g2,g3,-⟩:=aP.parts aN
    obtain ⟨nB,db,dF,c8,du,-⟩:=aP.parts dp;obtain ⟨jv,j0,ck,cL,ev,ee,lj,mg⟩:=aP.parts bP;have aA:d = .slice e:=by rw [bw] at g3;cases d<;>simp [ec] at g3;rw [g3]
    subst aA;have cH:∀ k,db ≠ .int k:=fun k e'=>by subst e';exact ed k du.symm
    subst dN;obtain ⟨us,hq,oT,jw,jd,sA,sB,sC⟩:=pU (sz':=1) eH (.inr rfl);have mV:=hq.length;have ox:∀ x∈us,x.oneCell'=true:=oQ hq ew;have rJ:flat us=us:=qL ox;have gE:vs.size=cap:=by rw [← ai8];exact gm
    have cI:=Dp (ty:=o.type) (P:=P) w g2 c8 cH ck b n cap vs cx (xv:=fX) (m:=ys.length) (news:=us) (jw P) (by rw [ee,U];(conv=>rhs;rw [← rJ]);exact jd P w (fun _ _ _=>rfl)) ox ak (by rw [ee,U,gE];omega);rw [ee,U,am8] at cI;have hc:b4 w p (vs.toList.take n++us++vs.toList.drop (n+us.length)) (cs.take n++ys++cs.drop (n+us.length)):=b4.append (b4.append iG hq) (cE.drop _);have cK:(aT s L) b=some (.box e cs):=al.get I
    obtain ⟨dq,jS,jf⟩:=u' aI.wf cK (vs':=(vs.toList.take n++us++vs.toList.drop (n+us.length)).toArray) (cs':=cs.take n++ys++cs.drop (n+us.length)) (fun xq bn=>by
      rw [cx] at bn;cases bn
      simp only [ap2,f0,ah',an0,gm]
      rw [gE];omega) (by simpa using hc) _ C
    obtain ⟨f1,f2⟩:=al.put (.box e (cs.take n++ys++cs.drop (n+us.length))) I;refine ⟨_,_,_,p,_,ef _ _ cI,dq,jS,jf,⟨b,cap,cs.take n++ys++cs.drop (n+us.length),rfl,f1,f2,?_,by omega,?_⟩,.ho _⟩
    · simp only [f0,ah',an0,cm];omega
    · have:(cs.take n++ys).length=n+ys.length:=by simp [cm];omega
      rw [al5 ak,am4 ak]
theorem aX.I8 (aP:bX P Γ) {t bR e:TypeId} {x y:Operand} {it cT aJ:bQ} {eI b9:Nat} {dW:bM}
  (ai:o.op = .call { callee := .builtin .append,args := #[x,y],argTypes := #[t,bR] }) (aN:Γ.get? t=some it) (bw:it.bN = .aF e) (dp:Γ.get? bR=some cT) (ed:∀ k,cT.bN ≠ .int k)
  (bP:Γ.get? e=some aJ) (aa:aL env x=some (.aF eI [] .nil)) (ar:aL env y=some (.aF b9 [] dW)) {X:ag→ao→Prop}:aX P N o env s (fun r an=>r = .aF 0 [] .nil∧an=s) X:=by
 refine aX.jZ hZ fun ro B a w p aI=>?_
 have fz:=aI.aL aa;have eH:=aI.aL ar;have ef:=fun val w'=>vt (P:=P) (a:=a) (val:=val) (w:=w) (w':=w') ai
 generalize dM:a.eval x=dy at fz ef;generalize fj:a.eval y=fX at eH ef;have xp:dy = .slice none 0 0:=by
  cases fz with
  | iA=>rfl
  | jo a _ _ h=>rcases h with h|h<;>cases h
  | aF g off n cap _ vs _ _ av=>exact absurd C av
 subst xp;obtain ⟨info,d,g1,g2,g3,-⟩:=aP.parts aN;obtain ⟨nB,db,dF,c8,du,-⟩:=aP.parts dp;obtain ⟨jv,j0,ck,cL,ev,ee,lj,mg⟩:=aP.parts bP;have aA:d = .slice e:=by rw [bw] at g3;cases d<;>simp [ec] at g3;rw [g3]
 subst aA;have cH:∀ k,db ≠ .int k:=fun k e'=>by subst e';exact ed k du.symm
 obtain ⟨us,hq,oT,jw,jd,sA,sB,sC⟩:=pU (sz':=aJ.size) eH (.inl rfl);cases hq;have aE:=jw P;have aZ:=jd P w (fun _ _ _=>rfl);rw [ai9] at aE aZ;have bO:(match db with | .int _=>true|_=>false)=false:=by cases db<;>first|rfl|exact absurd C (cH _)
 have cI:(Builtin.append_ #[t,bR] o.type #[.slice none 0 0,fX]).run P w = .ok (.slice none 0 0) w:=by
  simp [Builtin.append_,run_underlying g2,run_underlying c8,sizeOf,typeInfo,ck,ee,bO,aE,aZ]
 exact ⟨_,w,s,p,_,ef _ _ cI,.refl w p,.refl s w p,aI.wf,⟨rfl,rfl⟩,.iA _ _ (fun _=>by simp)⟩
theorem ab.I8 (aP:bX P Γ) {t bR e:TypeId} {x y:Operand} {it cT aJ:bQ} {eI b9:Nat} {dW:bM} (ay:guardOf ops env o=some true) (aA:o.dst=some d) (a1:af' d N=true)
  (ai:o.op = .call { callee := .builtin .append,args := #[x,y],argTypes := #[t,bR] }) (aN:Γ.get? t=some it) (bw:it.bN = .aF e) (dp:Γ.get? bR=some cT) (ed:∀ k,cT.bN ≠ .int k)
  (bP:Γ.get? e=some aJ) (aa:aL env x=some (.aF eI [] .nil)) (ar:aL env y=some (.aF b9 [] dW)) (h:ab P N ops l Q ((d,.aF 0 [] .nil)::env) s):ab P N ops (o::l) Q env s:=
 ab.op ay aA a1 (aX.I8 aP ai aN bw dp ed bP aa ar (X:=fun _ _=>False)) (fun x an ⟨U,ad⟩=>by subst U;subst ad;exact h) (fun _ _ h=>h.elim)
theorem ab.I6 (aP:bX P Γ) (I:Ok s L) {t bR e:TypeId} {x y:Operand} {it cT aJ:bQ} {eI b9:Nat} {ys:List ag} {dW:bM} (ay:guardOf ops env o=some true) (aA:o.dst=some d) (a1:af' d N=true)
  (ai:o.op = .call { callee := .builtin .append,args := #[x,y],argTypes := #[t,bR] }) (aN:Γ.get? t=some it) (bw:it.bN = .aF e) (dp:Γ.get? bR=some cT) (ed:∀ k,cT.bN ≠ .int k)
  (bP:Γ.get? e=some aJ) (U:aJ.size=1) (eE:aj4 aJ.zero.cells.size aJ.size=true) (aa:aL env x=some (.aF eI [] .nil)) (ar:aL env y=some (.aF b9 ys dW)) (dN:b9=1) (ew:ys.all eZ=true) (cN:1≤ys.length) (aq:ys.length*aJ.bytes≤140737488355328) (eR:ys.length≤9223372036854775807)
  (h:∀ aW b0 cs',cs'.length=b0→ys.length≤b0→cs'.take ys.length=ys→Ok s ((.own aW,.box e cs')::L)→ab P N ops l Q ((d,dv aW ys.length b0)::env) (aT s ((.own aW,.box e cs')::L))):ab P N ops (o::l) Q env (aT s L):=by
 refine ab.op ay aA a1 (aX.I6 aP I ai aN bw dp ed bP U eE aa ar dN ew cN aq eR (X:=fun _ _=>False)) ?_ (fun _ _ h=>h.elim);rintro r an ⟨aW,b0,cs',rfl,rfl,ad,aj,bk,bF⟩;exact h aW b0 cs' aj bk bF ad
theorem ab.I7 (aP:bX P Γ) (I:Ok s L) {t bR e:TypeId} {x y:Operand} {it cT aJ:bQ} {b n cap b9:Nat} {cs ys:List ag} {dW:bM} (ay:guardOf ops env o=some true) (aA:o.dst=some d) (a1:af' d N=true)
  (ai:o.op = .call { callee := .builtin .append,args := #[x,y],argTypes := #[t,bR] }) (aN:Γ.get? t=some it) (bw:it.bN = .aF e) (dp:Γ.get? bR=some cT) (ed:∀ k,cT.bN ≠ .int k)
  (bP:Γ.get? e=some aJ) (U:aJ.size=1) (eE:aj4 aJ.zero.cells.size aJ.size=true) (aa:aL env x=some (dv b n cap)) (al:bm L (.own b) (.box e cs) R) (cm:cs.length=cap) (av:n≤cap) (j2:(cs.take n).all eZ=true)
  (ar:aL env y=some (.aF b9 ys dW)) (dN:b9=1) (ew:ys.all eZ=true) (aq:(n+ys.length)*aJ.bytes≤140737488355328) (eR:n+ys.length≤9223372036854775807)
  (h:∀ aW b0 cs',cs'.length=b0→n+ys.length≤b0→cs'.take (n+ys.length)=cs.take n++ys→Ok s ((.own aW,.box e cs')::R)→ab P N ops l Q ((d,dv aW (n+ys.length) b0)::env) (aT s ((.own aW,.box e cs')::R))):ab P N ops (o::l) Q env (aT s L):=by
 refine ab.op ay aA a1 (aX.I7 aP I ai aN bw dp ed bP U eE aa al cm av j2 ar dN ew aq eR (X:=fun _ _=>False)) ?_ (fun _ _ h=>h.elim);rintro r an ⟨aW,b0,cs',rfl,rfl,ad,aj,bk,bF⟩;exact h aW b0 cs' aj bk bF ad
end
theorem aaO (_u:Unit):aY d4 376 [.int .u64 0] (.int .i64 0):=by
 have aq:=bx;refine aY.bj ah Tryz.func376 C C fun s I=>?_
 refine bd ?_;refine ab.AW ah 0 C C C C C C C C dh C ?_;refine bd ?_;exact b2 I
theorem aaP (_u:Unit):aY d4 336 [.int .u64 0] (.int .i64 0):=by
 have aq:=bx;refine aY.bj ah Tryz.func336 C C fun s I=>?_
 have U:=aaO ();refine c1 ?_;exact b2 I
theorem aaQ (_u:Unit):aY d4 366 [.aF 0 [] .nil,.int .i64 0,.int .i64 0] (.bW []):=by
 have aq:=bx;refine aY.bj ah Tryz.func366 C C fun s I=>?_
 refine gp ?_;refine af.cc [1,2] C I (σ:=Unit) (fun _=>[(6,.int .i64 1)]) (fun _=>[]) (fun _=>True) (fun _=>0) () trivial (cy C) a' ?_;rintro _ _ I;refine bd ?_;exact b2 I
theorem aaR (_u:Unit):aY d4 335 [.aF 0 [] .nil,.int .i64 0,.int .i64 0,.int .i64 0] (.bW []):=by
 have aq:=bx;refine aY.bj ah Tryz.func335 C C fun s I=>?_
 have U:=aaQ ();refine gp ?_;refine af.cc [0,1,2,3] C I (σ:=Unit) (fun _=>[]) (fun _=>[]) (fun _=>True) (fun _=>0) () trivial (cy C) a' ?_;rintro _ _ I;refine c1 ?_;exact b2 I
theorem P4 (_u:Unit):aY d4 294 [.aF 0 [] .nil] (.bW []):=by
 have aq:=bx;refine aY.bj ah Tryz.func294 C C fun s I=>?_
 have U:=aaP ();have ad:=aaR ();refine c1 ?_;exact b2 I
def jm (da:g') (up:List Int):Prop:=∀ n,ko da n=if up.contains n then some (.bool true) else none
theorem jm.put {da:g'} {up:List Int} (h:jm da up) (x:Int):jm (mE da x (.bool true)) (up++[x]):=fun n=>by
 rw [EU,h n];by_cases e:n=x
 ·subst e;simp
 ·rw [f4 e]
  have:(up++[x]).contains n=up.contains n:=by
   rw [aj3];simp [e]
  rw [this]
theorem jm.look {da:g'} {up:List Int} (h:jm da up) (n:Int):kc (e9 da) (.int .i64 n)=some (if up.contains n then some (.bool true) else none):=by rw [r5,h n]
theorem te (l:List Int):(l.map ba).all eZ=true:=by rw [List.all_map];simp [Function.comp_def,ba,eZ]
structure I9 (p:aU):Prop where
 few:p.ch.length≤10
 each:∀ c∈p.ch,c.parents.length≤3∧c.bB.length≤4
theorem I' (p:aU) (aB:I9 p) (c:Nat) (aw:c<p.ch.length):aY d4 236 [cQ p,.int .i64 ((c:Int)+3)] (br (lW p c)):=by
 have aq:=bx;refine aY.bj ah Tryz.func236 C C fun s I=>?_
 have xY:=aB.few;unfold cQ cj
 repeat (first|(refine sM ?_)|refine ab.h0 I C C C C C C (fun b I=>?_)|(refine Hq ?_))
 refine ab.ou I C C C C (fun mb I=>?_);refine fB ?_;refine ab.kz ah I C C (.inr C) C C C C C C aO C (mF ((c:Int)+3) (.bool true) []) (fun I=>?_);refine fc ?_;refine af.cc [2] C I (σ:=Nat×List Int×List Int×qS×g') (fun q=>[(7,.int .i64 ((q.1:Int)+2)),(5,.map mb),(6,gy q.2.2.2.1 q.2.2.1)]) (fun q=>[(.own b,.box 27 (cj p)),(.own mb,.map (e9 q.2.2.2.2))]++gh q.2.2.2.1 q.2.2.1)
  (fun q=>q.1≤c+1∧nf p.ch q.1 q.2.1 q.2.2.1=nf p.ch (c+1) [(c:Int)+3] []∧jm q.2.2.2.2 q.2.1∧m' q.2.2.2.1 q.2.2.1∧q.2.2.1.length+4*q.1≤4*(c+1)) (fun q=>q.1) (c+1,[(c:Int)+3],[],none,[((c:Int)+3,.bool true)])
  ⟨t7 _,rfl,fun n=>by unfold ko;by_cases e:n=(c:Int)+3<;>simp [e],rfl,by simp⟩ ⟨⟨_,rfl,aR.of_eq ez⟩,⟨_,rfl,aH⟩,⟨_,rfl,aH⟩,trivial⟩ (by simp only [gh,d7,cj];exact a') ?_
 rintro ⟨k,up,out,bD,da⟩ ⟨ax,aG,e8,dt,gq⟩ I;simp only at ax aG e8 dt gq I ⊢;unfold cj at I ⊢;refine iR ?_;refine af.cond C (fun au=>?_) (fun aV=>?_);rotate_left
 ·have aV:k=0:=by simp at aV;omega
  subst aV;have aG:out=nf p.ch (c+1) [(c:Int)+3] []:=aG;have aC:lW p c=hO out:=by unfold lW;rw [← aG]
  rw [aC];rcases bD with _|⟨g,cap,dJ⟩
  ·have:out=[]:=dt
   subst this;have U:=P4 ();have ad:=vC [] .nil;have ad:=aY.args (show b5 [.aF 0 [] .nil] [.aF 1 [] .nil] from .one (aR.nil gF)) ad;refine dS ?_;rw [show hO []=[] by unfold hO;simp];exact Fin.cZ I C aR.a7
  ·have kP:out.length+dJ.length=cap:=dt
   have U:=Ek g cap out dJ ak;have ad:=vC ((hO out).map ba) .a7;simp only [gh,gy,d5,d0] at I ⊢;refine dS ?_;refine ab.bL rfl rfl rfl rfl rfl U I (.cons aO .nil) ?_ (fun _ _ ⟨h,_⟩ _=>by cases h);rintro _ _ ⟨⟨⟩,rfl⟩ I;simp only [d5,d0] at I ⊢;have e:((hO out).map ba++dJ).take out.length=(hO out).map ba:=ao9 (by unfold hO;simp);have vW:(hO out).length=out.length:=by unfold hO;simp
   refine ab.run ah C (ab.nil ?_);refine cg ?_;refine af.Hw I 6 g (cs:=(hO out).map ba++dJ) C .here (by rw [f0,f6];omega) ak ak (by rw [e];exact te _) (fun I=>?_);rw [e];refine dS ?_;exact Fin.cZ I C aR.a7
 have au:1≤k:=by simp at au;omega
 obtain ⟨i,rfl⟩:∃ i,k=i+1:=⟨k-1,by omega⟩;have fs:=e8.look ((i:Int)+3);have ay:nf p.ch (i+1) up out=if up.contains ((i:Int)+3) then nf p.ch i (up++(p.ch.getD i default).parents) (out++(p.ch.getD i default).bB) else nf p.ch i up out:=rfl
 rw [ay] at aG;have P5:(((i+1:Nat):Int)+2)=(i:Int)+3:=by omega
 rw [P5];have uk:i<p.ch.length:=by omega
 obtain ⟨dK,cm,vX⟩:=b' (f:=gX) uk;have m0:p.ch.getD i default=dK:=by rw [d9,cm];rfl
 rw [m0] at aG;obtain ⟨PZ,iC⟩:=aB.each dK (d8 cm);have dq:ai' .i64 ((i:Int)+3-3)=(i:Int):=by rw [hf ak ak];omega
 have jS:ai' .i64 ((i:Int)+3-1)=(i:Int)+2:=by rw [hf ak ak];omega
 refine fc ?_;cases pf:up.contains ((i:Int)+3) with
 | false=>
  rw [pf] at aG fs;simp only [aj2,al0] at aG fs;refine ab.j7 ah I C C C C C C C C C C (.there .here) C fs C ?_;refine dS ?_;exact bA.mk (i,up,out,bD,da) I ⟨by omega,aG,e8,dt,by show out.length+4*i≤4*(c+1);omega⟩ E2 (az.fQ _) (by show i<i+1;omega)
 | true=>
  rw [pf] at aG fs;simp only [ak2] at aG fs;unfold gX sX br at vX;refine ab.j7 ah I C C C C C C C C C C (.there .here) C fs C ?_;refine c9 I ?_;intro I;refine ab.idx ah i C C C C C C C C C C dq vX C ?_;refine fB ?_;rcases bD with _|⟨g,cap,dJ⟩
  ·have bn:out=[]:=dt
   by_cases Ja:dK.bB=[]
   ·refine ab.rH 28 (.aF 1 [] .a7) C (aR.of_eq (by rw [Ja];rfl)) ?_
    refine ab.I8 ah C C C C C C C dB C C C ?_;have xQ:m' none (out++dK.bB):=by rw [bn,Ja];rfl
    refine c9 I ?_;intro I;refine ab.idx ah i C C C C C C C C C C dq vX C ?_;refine fc ?_;refine af.cc [2,5,6,7,36,37] C I (σ:=Nat×g') (fun q=>[(38,.int .i64 (q.1:Int))]) (fun q=>(.own mb,.map (e9 q.2))::(.own b,.box 27 (cj p))::gh none (out++dK.bB)) (fun q=>q.1≤dK.parents.length∧jm q.2 (up++dK.parents.take q.1)) (fun q=>dK.parents.length-q.1) (0,da) ⟨g9 _,by rw [an7,d7];exact e8⟩ (cy C) (.cons (.there .here) (.cons .here .nil)) ?_;rintro ⟨k,p'⟩ ⟨iB,px⟩ I;simp only [cj] at iB px I ⊢;refine iR ?_;refine af.cond C (fun dA=>?_) (fun fE=>?_)
    ·have dA:k<dK.parents.length:=by simpa using dA
     obtain ⟨x,aa,bY⟩:=b' (f:=ba) dA;unfold ba at bY;refine fc ?_;refine ab.kz ah I C C (.inl C) C C C C C C .here C (mF _ _ _) (fun I=>?_);refine dS ?_;exact bA.mk (k+1,_) I ⟨dA,by rw [fD aa,← aj0];exact px.put x⟩ ct (az.fQ _) I1
    ·have fE:k=dK.parents.length:=by simp at fE;omega
     subst fE;rw [ag'] at px;refine dS ?_;exact bA.mk (i,up++dK.parents,out++dK.bB,none,p') I ⟨by omega,aG,px,xQ,by show (out++dK.bB).length+4*i≤4*(c+1);rw [f0];omega⟩ E2 (.cons (.there .here) (.cons .here (az.fQ _))) (by show i<i+1;omega)
   ·have rG:1≤dK.bB.length:=by
     rcases bO:dK.bB with _|⟨z,aO⟩
     ·exact absurd bO Ja
     ·simp
    refine ab.I6 ah I C C C C C C C dB C C C C C C (te _) (by rw [f6];exact rG) (by show _*8≤_;rw [f6];omega) zM (fun aW b0 cs' U ad aj I=>?_)
    obtain ⟨dJ,rfl⟩:∃ dJ,cs'=(out++dK.bB).map ba++dJ:=⟨cs'.drop (dK.bB.map ba).length,by
     have:=am2 (dK.bB.map ba).length cs'
     rw [aj] at this
     rw [bn];exact this.symm⟩
    have xQ:m' (some (aW,b0,dJ)) (out++dK.bB):=by show (out++dK.bB).length+dJ.length=b0;rw [f0,f6] at U;exact U
    refine ab.rH 29 (gy (some (aW,b0,dJ)) (out++dK.bB)) C (aR.of_eq (by show dv aW _ b0=dv aW _ b0;rw [bn,f6];rfl)) ?_;refine c9 I ?_;intro I;refine ab.idx ah i C C C C C C C C C C dq vX C ?_;refine fc ?_;refine af.cc [2,5,6,7,36,37] C I (σ:=Nat×g') (fun q=>[(38,.int .i64 (q.1:Int))]) (fun q=>(.own mb,.map (e9 q.2))::(.own b,.box 27 (cj p))::gh (some (aW,b0,dJ)) (out++dK.bB)) (fun q=>q.1≤dK.parents.length∧jm q.2 (up++dK.parents.take q.1)) (fun q=>dK.parents.length-q.1) (0,da) ⟨g9 _,by rw [an7,d7];exact e8⟩ (cy C) (.cons (.there (.there .here)) (.cons (.there .here) (.cons .here .nil))) ?_;rintro ⟨k,p'⟩ ⟨iB,px⟩ I;simp only [cj] at iB px I ⊢;refine iR ?_;refine af.cond C (fun dA=>?_) (fun fE=>?_)
    ·have dA:k<dK.parents.length:=by simpa using dA
     obtain ⟨x,aa,bY⟩:=b' (f:=ba) dA;unfold ba at bY;refine fc ?_;refine ab.kz ah I C C (.inl C) C C C C C C .here C (mF _ _ _) (fun I=>?_);refine dS ?_;exact bA.mk (k+1,_) I ⟨dA,by rw [fD aa,← aj0];exact px.put x⟩ ct (az.fQ _) I1
    ·have fE:k=dK.parents.length:=by simp at fE;omega
     subst fE;rw [ag'] at px;refine dS ?_;exact bA.mk (i,up++dK.parents,out++dK.bB,(some (aW,b0,dJ)),p') I ⟨by omega,aG,px,xQ,by show (out++dK.bB).length+4*i≤4*(c+1);rw [f0];omega⟩ E2 (.cons (.there .here) (.cons .here (az.fQ _))) (by show i<i+1;omega)
  ·have kP:out.length+dJ.length=cap:=dt
   refine ab.I7 (n:=out.length) (cap:=cap) (cs:=out.map ba++dJ) ah I C C C C C C C dB C C C C (.there (.there .here)) (by rw [f0,f6];exact kP) ak (by rw [ao9 bc];exact te _) C C (te _) (by show _*8≤_;rw [f6];omega) zM (fun aW b0 cs' U ad aj I=>?_);rw [ao9 bc] at aj
   obtain ⟨rU,rfl⟩:∃ dJ,cs'=(out++dK.bB).map ba++dJ:=⟨cs'.drop (out.length+(dK.bB.map ba).length),by
    have:=am2 (out.length+(dK.bB.map ba).length) cs'
    rw [aj] at this
    rw [t8];exact this.symm⟩
   have xQ:m' (some (aW,b0,rU)) (out++dK.bB):=by show (out++dK.bB).length+rU.length=b0;rw [f0,f6] at U;exact U
   refine ab.rH 29 (gy (some (aW,b0,rU)) (out++dK.bB)) C (aR.of_eq (by show dv aW _ b0=dv aW _ b0;rw [f6,f0])) ?_;refine c9 I ?_;intro I;refine ab.idx ah i C C C C C C C C C C dq vX C ?_;refine fc ?_;refine af.cc [2,5,6,7,36,37] C I (σ:=Nat×g') (fun q=>[(38,.int .i64 (q.1:Int))]) (fun q=>(.own mb,.map (e9 q.2))::(.own b,.box 27 (cj p))::gh (some (aW,b0,rU)) (out++dK.bB)) (fun q=>q.1≤dK.parents.length∧jm q.2 (up++dK.parents.take q.1)) (fun q=>dK.parents.length-q.1) (0,da) ⟨g9 _,by rw [an7,d7];exact e8⟩ (cy C) (.cons (.there (.there .here)) (.cons (.there .here) (.cons .here .nil))) ?_;rintro ⟨k,p'⟩ ⟨iB,px⟩ I;simp only [cj] at iB px I ⊢;refine iR ?_;refine af.cond C (fun dA=>?_) (fun fE=>?_)
   ·have dA:k<dK.parents.length:=by simpa using dA
    obtain ⟨x,aa,bY⟩:=b' (f:=ba) dA;unfold ba at bY;refine fc ?_;refine ab.kz ah I C C (.inl C) C C C C C C .here C (mF _ _ _) (fun I=>?_);refine dS ?_;exact bA.mk (k+1,_) I ⟨dA,by rw [fD aa,← aj0];exact px.put x⟩ ct (az.fQ _) I1
   ·have fE:k=dK.parents.length:=by simp at fE;omega
    subst fE;rw [ag'] at px;refine dS ?_;exact bA.mk (i,up++dK.parents,out++dK.bB,(some (aW,b0,rU)),p') I ⟨by omega,aG,px,xQ,by show (out++dK.bB).length+4*i≤4*(c+1);rw [f0];omega⟩ E2 (.cons (.there .here) (.cons .here (az.fQ _))) (by show i<i+1;omega)
def E3 (b:Bool):eS:=if b then .ret (.bW []) else .panic uz
theorem gP {x:ag} {b:Bool} (h:eS.ret x=E3 b):b=true∧x = .bW []:=by
 cases b with
 | true=>cases h;exact ⟨rfl,rfl⟩
 | false=>cases h
theorem gQ {x:ag} {b:Bool} (h:eS.panic x=E3 b):b=false∧x=uz:=by
 cases b with
 | true=>cases h
 | false=>cases h;exact ⟨rfl,rfl⟩
theorem ha (b:Bool):bs d4 282 [.bool b] [] (fun o K=>K=[]∧o=E3 b):=by
 cases b with
 | true=>exact fun s I=>hX.mono (aaG () s) (fun o an ⟨U,ad⟩=>⟨[],ad,trivial,rfl,U⟩)
 | false=>exact bs.mono (aaH ()) (fun o K ⟨U,ad⟩=>⟨ad,U⟩)
theorem Jb {cs:List gG} (h:∀ c∈cs,c.bB.length≤4):∀ (k:Nat) (up out:List Int),(nf cs k up out).length≤out.length+4*k
  | 0,_,_=>t7 _
  | k+1,up,out=>by
    rw [nf];split
    · have U:=Jb h k (up++(cs.getD k default).parents) (out++(cs.getD k default).bB)
      have ad:(cs.getD k default).bB.length≤4:=by
        rw [d9];cases aw:cs[k]? with
        | none=>exact g9 _
        | some c=>exact h c (d8 aw)
      rw [f0] at U;omega
    · have:=Jb h k up out
      omega
theorem aaS (p:aU) (aB:e3 p):bs d4 281 [cQ p] [] (fun o K=>K=[]∧o=E3 (r0 p)):=by
 have aq:=bx;have ay:=I4 p aB;have p1:(gY p).length=p.ch.length:=by unfold gY;simp
 have E4:=aaF (gY p) (by rw [p1];exact aB.cls);have cO:r0 p=(decide (p.ch.length≤10)&&((mB 0 p.ch==some p.bB)&&(o4 (gY p)&&qW p 0 p.ch))):=rfl;refine bs.bj ah Tryz.func281 C C fun s I=>?_
 unfold cQ cj at *;unfold fk at *;refine cX ?_;refine ab.bL C C C C C (ha _) I .nil ?_ ?_;rotate_left
 ·rintro _ _ ⟨rfl,h⟩ I
  obtain ⟨av,rfl⟩:=gQ h;rw [d0] at I ⊢;exact Fin.e1 I aH .nil ⟨rfl,(by rw [cO,show decide (p.ch.length≤10)=false by simp at av ⊢;omega];rfl)⟩
 rintro _ _ ⟨rfl,h⟩ I;obtain ⟨U,rfl⟩:=gP h;rw [d0] at I ⊢;have U:p.ch.length≤10:=by simp at U;omega
 rw [show decide (p.ch.length≤10)=true by simpa using U,i8] at cO;refine bd ?_;refine af.cc [1,22,23] C I (σ:=Nat×Nat) (fun q=>[(24,.int .i64 (q.1:Int)),(2,.int .i64 (q.2:Int))]) (fun _=>[]) (fun q=>q.1≤p.ch.length∧mB 0 p.ch=mB (q.2:Int) (p.ch.drop q.1)∧q.2≤4*q.1) (fun q=>p.ch.length-q.1) (0,0) ⟨g9 _,rfl,t7 _⟩ (cy C) a' ?_;rintro ⟨j,n⟩ ⟨aK,aG,aaT⟩ I;simp only at aK aG aaT I ⊢;refine cl ?_;refine af.cond C (fun au=>?_) (fun aV=>?_)
 ·have au:j<p.ch.length:=by simpa using au
  obtain ⟨c,ar,cf⟩:=b' (f:=gX) au;rw [drop_cons ar,mB] at aG;unfold gX sX br at cf;refine ej ?_;refine ab.bL C C C C C (ha _) I .nil ?_ ?_;rotate_left
  ·rintro _ _ ⟨rfl,h⟩ I
   obtain ⟨av,rfl⟩:=gQ h;rw [d0] at I ⊢;exact Fin.e1 I aH .nil ⟨rfl,(by rw [f4 (by simp at av;omega)] at aG;rw [cO,aG];rfl)⟩
  rintro _ _ ⟨rfl,h⟩ I;obtain ⟨ad,rfl⟩:=gP h;rw [d0] at I ⊢;have ad:c.bB.length≤4:=by simp at ad;omega
  rw [f7 ad] at aG;refine bd ?_;refine af.cc [1,22,23,24,34,35] C I (σ:=Nat×Nat) (fun q=>[(36,.int .i64 (q.1:Int)),(2,.int .i64 (q.2:Int))]) (fun _=>[]) (fun q=>q.1≤c.bB.length∧pn (n:Int) c.bB=pn (q.2:Int) (c.bB.drop q.1)∧q.2≤n+q.1) (fun q=>c.bB.length-q.1) (0,n) ⟨g9 _,rfl,t7 _⟩ (cy C) a' ?_;rintro ⟨k,m⟩ ⟨ax,bC,P6⟩ I;simp only at ax bC P6 I ⊢;refine cl ?_;refine af.cond C (fun dA=>?_) (fun fE=>?_)
  ·have dA:k<c.bB.length:=by simpa using dA
   obtain ⟨x,aa,bY⟩:=b' (f:=ba) dA;rw [drop_cons aa,pn] at bC;unfold ba at bY;refine fc ?_;refine ab.bL C C C C C (ha _) I .nil ?_ ?_;rotate_left
   ·rintro _ _ ⟨rfl,h⟩ I
    obtain ⟨av,rfl⟩:=gQ h;rw [d0] at I ⊢;exact Fin.e1 I aH .nil ⟨rfl,(by rw [f4 r9] at bC;rw [bC] at aG;rw [cO,aG];rfl)⟩
   rintro _ _ ⟨rfl,h⟩ I;obtain ⟨aj,rfl⟩:=gP h;rw [d0] at I ⊢;have aj:x=(m:Int):=by simpa using aj
   rw [f7 aj] at bC;refine eF ?_;exact bA.mk (k+1,m+1) I ⟨dA,by rw [bC];push_cast;rfl,by show m+1≤n+(k+1);omega⟩ (by repeat (first|exact trivial|refine ⟨⟨_,rfl,aH⟩,?_⟩|refine ⟨⟨_,rfl,aR.of_eq (by (first|rw [lo ak]|(rw [hf ak ak];push_cast;rfl)))⟩,?_⟩)) a' (by show c.bB.length-(k+1)<c.bB.length-k;omega)
  ·have fE:k=c.bB.length:=by simp at fE;omega
   subst fE;rw [fe (t7 _),pn] at bC;rw [bC] at aG;refine bd ?_;exact bA.mk (j+1,m) I ⟨au,aG,by show m≤4*(j+1);omega⟩ ct a' B8
 have aV:j=p.ch.length:=by simp at aV;omega
 subst aV;rw [fe (t7 _),mB] at aG;rw [aG] at cO;refine dS ?_;cases vY:((n:Int)==p.bB) with
 | false=>
  have Jc:(some (n:Int)==some p.bB)=false:=by rw [← vY];rfl
  rw [Jc,aa'] at cO;refine nN ?_;refine ab.bL C C C C C (ha _) I .nil ?_ ?_;rotate_left
  ·rintro _ _ ⟨rfl,h⟩ I
   obtain ⟨av,rfl⟩:=gQ h;rw [d0] at I ⊢;exact Fin.e1 I aH .nil ⟨rfl,(by rw [cO];rfl)⟩
  rintro _ _ ⟨rfl,h⟩ I;obtain ⟨aj,rfl⟩:=gP h;rw [d0] at I ⊢;cases aj
 | true=>
 have Jc:(some (n:Int)==some p.bB)=true:=by rw [← vY];rfl
 rw [Jc,i8] at cO;have dt:=EI aG;cases vZ:o4 (gY p) with
 | false=>
  rw [vZ,aa'] at cO;rw [vZ] at E4;simp only [aj2,al0] at E4;refine gw ?_;refine ab.bL C C C C C (ha _) I .nil ?_ ?_;rotate_left
  ·rintro _ _ ⟨rfl,h⟩ I
   obtain ⟨av,rfl⟩:=gQ h;rw [d0] at I ⊢;exact Fin.e1 I aH .nil ⟨rfl,(by rw [cO];rfl)⟩
  rintro _ _ ⟨rfl,h⟩ I;obtain ⟨aj,rfl⟩:=gP h;rw [d0] at I ⊢;exact absurd aj dh
 | true=>
 rw [vZ,i8] at cO;rw [vZ] at E4;simp only [ak2] at E4;have kd:=D6 vZ
 have aaU:I9 p:=⟨U,fun c aw=>⟨by
  obtain ⟨i,aQ⟩:=an6 aw
  exact (kd.par i c.parents (by unfold gY;rw [aj6,aQ];rfl)).1,dt c aw⟩⟩
 have P7:=fun c aw=>PW (gY p) vZ c aw
 unfold fk at P7;refine gw ?_;refine ab.bL C C C C C (ha _) I .nil ?_ ?_;rotate_left
 ·rintro _ _ ⟨rfl,h⟩ I
  obtain ⟨av,rfl⟩:=gQ h;rw [d0] at I ⊢;exact Fin.e1 I aH .nil ⟨rfl,(by exact absurd av dh)⟩
 rintro _ _ ⟨rfl,h⟩ I;obtain ⟨aj,rfl⟩:=gP h;rw [d0] at I ⊢;clear aj;refine bd ?_;refine af.cc [1,7,61,62] C I (σ:=Nat) (fun j=>[(63,.int .i64 (j:Int))]) (fun _=>[]) (fun j=>j≤p.ch.length∧r0 p=qW p j (p.ch.drop j)) (fun j=>p.ch.length-j) 0 ⟨g9 _,cO⟩ (cy C) a' ?_;rintro j ⟨aK,aG⟩ I;refine cl ?_;refine af.cond C (fun au=>?_) (fun aV=>?_);rotate_left
 ·have aV:j=p.ch.length:=by simp at aV;omega
  subst aV;rw [fe (t7 _),qW] at aG;refine ki ?_;exact Fin.bz I C aH .nil ⟨rfl,by rw [aG];rfl⟩
 have au:j<p.ch.length:=by simpa using au
 obtain ⟨c,ar,cf⟩:=b' (f:=gX) au;rw [drop_cons ar,qW] at aG;unfold zA at aG;have zN:=P7 (j+3) ak;have lx:(gO (gY p) (2+(gY p).length)).getD (j+3) []=oD p (j+3):=rfl;rw [lx] at zN;have jf:ai' .i64 ((j:Int)+3)=((j+3:Nat):Int):=by rw [hf ak ak];omega
 rw [← jf] at zN;have E5:=I' p aaU j au;have E5:aY d4 236 [cQ p,.int .i64 (ai' .i64 ((j:Int)+3))] (br (lW p j)):=by rw [jf];exact E5
 unfold cQ cj br at E5;unfold gX sX br at cf;unfold EZ at zN;cases E6:(oD p (j+3)).isEmpty with
 | true=>
  rw [E6,f7 C] at zN;rw [E6] at aG
  repeat (first|(refine vr I ?_;clear I;intro I)|refine ab.c3 ah I rfl rfl rfl rfl rfl rfl rfl (fun cu I=>?_)|(refine qJ ?_))
  refine ab.bL C C C C C (ha _) I .nil ?_ ?_;rotate_left
  ·rintro _ _ ⟨rfl,h⟩ I
   obtain ⟨av,rfl⟩:=gQ h;rw [d0] at I ⊢;exact Fin.e1 I aH .nil ⟨rfl,(by rw [aG];rfl)⟩
  rintro _ _ ⟨rfl,h⟩ I;obtain ⟨aj,rfl⟩:=gP h;rw [d0] at I ⊢;exact absurd aj dh
 | false=>
 rw [E6,f4 bc] at zN;rw [E6,an4,i8] at aG;unfold br at zN
 repeat (first|(refine vr I ?_;clear I;intro I)|refine ab.c3 ah I rfl rfl rfl rfl rfl rfl rfl (fun cu I=>?_)|(refine qJ ?_))
 refine ab.bL C C C C C (ha _) I .nil ?_ ?_;rotate_left
 ·rintro _ _ ⟨rfl,h⟩ I
  obtain ⟨av,rfl⟩:=gQ h;rw [d0] at I ⊢;exact Fin.e1 I aH .nil ⟨rfl,(by exact absurd av dh)⟩
 rintro _ _ ⟨rfl,h⟩ I;obtain ⟨aj,rfl⟩:=gP h;rw [d0] at I ⊢;clear aj;refine gw ?_;refine ab.ou I C C C C (fun mb I=>?_);refine jB I ?_;intro I;have jI:(lW p j).length≤40:=by
  have:=Jb dt (j+1) [(j:Int)+3] [];unfold lW hO;rw [List.length_mergeSort];simp only [ai9] at this;omega
 have k0:=fun n=>xD (lW p j) n ak
 unfold br at k0;generalize lW p j=p6 at E5 aG jI k0 I ⊢;have P5:=(aB.each c (d8 ar)).2.2;refine af.cc [1,7,12,13,61,62,63,84,85] C I (σ:=Nat×g') (fun q=>[(86,.int .i64 (q.1:Int))]) (fun q=>[(.own mb,.map (e9 q.2))]) (fun q=>q.1≤c.inits.length∧jm q.2 ((c.inits.take q.1).map hD.slot)∧rZ p6 [] c.inits=rZ p6 ((c.inits.take q.1).map hD.slot) (c.inits.drop q.1)) (fun q=>c.inits.length-q.1) (0,[]) ⟨g9 _,fun n=>rfl,rfl⟩ (cy C) a' ?_;rintro ⟨k,da⟩ ⟨ax,e8,bC⟩ I;simp only at ax e8 bC I ⊢;refine cl ?_;refine af.cond C (fun dA=>?_) (fun fE=>?_);rotate_left
 ·have fE:k=c.inits.length:=by simp at fE;omega
  subst fE;rw [fe (t7 _),rZ] at bC;rw [bC,i8] at aG;refine bd ?_;exact bA.mk (j+1) I ⟨au,aG⟩ ct a' B8
 have dA:k<c.inits.length:=by simpa using dA
 obtain ⟨x,aa,bY⟩:=b' (f:=kB) dA;rw [drop_cons aa,rZ] at bC;unfold kB at bY;have P8:=k0 x.slot;have fs:=e8.look x.slot;have agQ:=PY x.n;cases um:p6.contains x.slot with
 | false=>
  rw [um] at P8;rw [um,aa'] at bC;rw [bC,aa'] at aG;refine ej ?_;refine ab.bL C C C C C (ha _) I .nil ?_ ?_;rotate_left
  ·rintro _ _ ⟨rfl,h⟩ I
   obtain ⟨av,rfl⟩:=gQ h;rw [d0] at I ⊢;exact Fin.e1 I aH .nil ⟨rfl,(by rw [aG];rfl)⟩
  rintro _ _ ⟨rfl,h⟩ I;obtain ⟨aj,rfl⟩:=gP h;rw [d0] at I ⊢;exact absurd aj dh
 | true=>
 rw [um] at P8;rw [um,i8] at bC;cases ph:((c.inits.take k).map hD.slot).contains x.slot with
 | true=>
  rw [ph] at fs;rw [ph,Bool.not_true,aa'] at bC;rw [bC,aa'] at aG;refine ej ?_;refine ab.j7 ah I C C C C C C C C C C aO C fs C ?_;refine nN ?_;refine ab.bL C C C C C (ha _) I .nil ?_ ?_;rotate_left
  ·rintro _ _ ⟨rfl,h⟩ I
   obtain ⟨av,rfl⟩:=gQ h;rw [d0] at I ⊢;exact Fin.e1 I aH .nil ⟨rfl,(by rw [aG];rfl)⟩
  rintro _ _ ⟨rfl,h⟩ I;obtain ⟨aj,rfl⟩:=gP h;rw [d0] at I ⊢;exact absurd aj dh
 | false=>
 rw [ph] at fs;rw [ph,an4,i8] at bC;simp only [aj2,al0] at fs;refine ej ?_;refine ab.j7 ah I C C C C C C C C C C aO C fs C ?_;refine gw ?_;refine ab.bL C C C C C (ha _) I .nil ?_ ?_;rotate_left
 ·rintro _ _ ⟨rfl,h⟩ I
  obtain ⟨av,rfl⟩:=gQ h;rw [d0] at I ⊢;exact Fin.e1 I aH .nil ⟨rfl,(by rw [av,aa'] at bC;rw [bC,aa'] at aG;rw [aG];rfl)⟩
 rintro _ _ ⟨rfl,h⟩ I;obtain ⟨aj,rfl⟩:=gP h;rw [d0] at I ⊢;rw [aj,i8] at bC;refine iR ?_;refine ab.kz ah I C C (.inl C) C C C C C C aO C (mF _ _ _) (fun I=>?_);refine eF ?_;have iG:(c.inits.take (k+1)).map hD.slot=(c.inits.take k).map hD.slot++[x.slot]:=by rw [fD aa,t8];rfl
 exact bA.mk (k+1,_) I ⟨dA,by show jm _ ((c.inits.take (k+1)).map hD.slot);rw [iG];exact e8.put x.slot,by show _=rZ p6 ((c.inits.take (k+1)).map hD.slot) _;rw [iG];exact bC⟩ ct a' (by show c.inits.length-(k+1)<c.inits.length-k;omega)
def yb (n:Int):ag := .iface 350 (.int .i64 n)
def yc (op:Int):ag:=
 if op=5 then .iface 352 (.agg [])
 else if op=1∨op=2∨op=3∨op=6∨op=18 then yb 0
 else if op=4∨op=8∨op=17 then yb 1
 else if op=7∨op=9∨op=11∨op=12∨op=13∨op=14∨op=15∨op=16 then yb 2
 else if op=10 then yb 3
 else .pM
theorem aaV (op:Int):aY d4 286 [.int .i64 op] (yc op):=by
 have aq:=bx;refine aY.bj ah Tryz.func286 C C fun s I=>?_
 by_cases aC:1≤op∧op≤18
 ·have h:op=1∨op=2∨op=3∨op=4∨op=5∨op=6∨op=7∨op=8∨op=9∨op=10∨op=11∨op=12∨op=13∨op=14∨op=15∨op=16∨op=17∨op=18:=by omega
  clear aC;rcases h with rfl|rfl|rfl|rfl|rfl|rfl|rfl|rfl|rfl|rfl|rfl|rfl|rfl|rfl|rfl|rfl|rfl|rfl
  all_goals
   refine bd ?_;exact b2 I
 ·have ax:yc op = .pM:=by
   unfold yc;rw [f4 ak,f4 ak,f4 ak,f4 ak,f4 ak]
  rw [ax]
  repeat (first|(refine DS ?_)|refine af.cond C (fun h=>absurd h ez) (fun _=>?_))
  exact b2 I
theorem P9 (n:Int) (p:aU) (x:eW):aY d4 429 [.int .i64 n,cQ p,ff x] (.int .i64 n):=by
 have aq:=bx;refine aY.bj ah Tryz.func429 C C fun s I=>?_
 unfold cQ cj ff h4;refine nM ?_;exact b2 I
theorem P' (p:aU) (x:eW) (k:Nat) (g:Int) (aa:x.n=(k:Int)) (ax:p.dX[k]? = some g):aY d4 430 [.agg [],cQ p,ff x] (.int .i64 g):=by
 have aq:=bx;refine aY.bj ah Tryz.func430 C C fun s I=>?_
 have fa:(p.dX.map ba)[k]? = some (.int .i64 g):=by rw [aj6,ax];rfl
 unfold cQ cj ff h4 br;rw [aa];refine bd ?_;exact b2 I
theorem aaW (p:aU) (aB:e3 p) (x:eW) (size:Int):aY d4 285 [cQ p,ff x,.int .i64 size] (.bool (po p x size)):=by
 have aq:=bx;refine aY.bj ah Tryz.func285 C C fun s I=>?_
 have cm:=aB.cls;have p1:=aB.dX;have U:=PY x.n;have dq:ai' .i64 (3+((p.ch.map gX).length:Int))=3+(p.ch.length:Int):=by rw [f6,hf ak ak]
 unfold cQ cj ff h4 br;by_cases aC:x.op=1∨x.op=3∨x.op=4∨x.op=7∨x.op=6∨x.op=8∨x.op=5
 ·rcases aC with h|h|h|h|h|h|h
  all_goals
   have hm:po p x size=po p x size:=rfl
   conv at hm=>rhs;unfold po
   rw [h] at hm ⊢;simp only [Int.reduceEq,ak2,al0,true_or,or_true,or_self,reduceIte] at hm;rw [hm]
   repeat' (first|(with_reducible first|apply af.seq|apply cg|apply jA|apply iP|apply mm|apply af.ret|apply af.skip|apply af.block)|refine e7 C ?_|refine af.cv ?_|refine ab.nil ?_|refine af.hA C ?_|refine af.hp C ?_|refine cq C ?_|refine ab.skip C C C ?_|refine ab.eT C C C C C cD ?_|(fail_if_success refine ab.same true C ?_);(fail_if_success refine ab.same false C ?_);refine ab.m3 C C (fun h=>?_) (fun h=>?_))
  all_goals (refine Fin.cZ I C (aR.of_eq (ak5 ag.bool ?_));clear I U;(try simp only [f6] at *)<;>grind)
 ·have hm:po p x size=(decide (x.n≥0)&&decide (x.n<1)):=by
   unfold po;rw [f4 ak,f4 ak,f4 ak,f4 ak,f4 ak]
  rw [hm]
  repeat (first|(refine DS ?_)|refine af.cond C (fun h=>absurd h (by first|(simp;done)|(simp;omega))) (fun _=>?_))
  repeat' (first|(with_reducible first|apply cg|apply af.ret)|refine ab.nil ?_|refine cq C ?_|refine ab.skip C C C ?_|(fail_if_success refine ab.same true C ?_);(fail_if_success refine ab.same false C ?_);refine ab.m3 C C (fun h=>?_) (fun h=>?_))
  all_goals (refine Fin.cZ I C (aR.of_eq (ak5 ag.bool ?_));clear I U;grind)
theorem aaX (w:bo):∀ (n:Nat) (f:ae),f.size≤n→n<bK→dU w f=true→aY d4 288 [f.bh] (.int .i64 (zf f)):=by
 have aq:=bx;intro n
 induction n with
 | zero=>intro x h;have:=x.size_eq;omega
 | succ n a8=>
  intro f av nH ay;refine aY.bj ah Tryz.func288 C C fun s I=>?_
  have o6:=f.size_eq;have hlen:=ae.vy f.kids;rw [p0,d6] at ay;rw [ae.bJ];rw [Xs];have bp:f.c7=true→ai' .i64 (f.arg+1)=f.arg+1:=fun aE=>by
   have av:=ay.1;simp only [fr,aE,ak2,d6,f5] at av;exact hf ak ak
  unfold ae.cells;cases aE:f.c7 with
  | true=>
   have aaY:f.op=2∨f.op=3∨f.op=4:=by unfold ae.c7 at aE;simp at aE;omega
   rcases aaY with h|h|h
   ·rw [h]
    refine bd ?_;refine af.cc [24,23] C I (σ:=Nat) (fun j=>[(25,.int .i64 (j:Int)),(3,.int .i64 (m6 (if f.c7 then f.arg+1 else 0) (f.kids.take j)))]) (fun _=>[]) (fun j=>j≤f.kids.length) (fun j=>f.kids.length-j) 0 (g9 _) E1 a' ?_;rintro j aK I;refine cl ?_;refine af.cond C (fun au=>?_) (fun aV=>?_);rotate_left
    ·have aV:j=f.kids.length:=by simp at aV;omega
     subst aV;rw [ag'];refine fb ?_;exact Fin.cZ I C (aR.of_eq (by rw [aE]))
    have au:j<f.kids.length:=by simpa using au
    obtain ⟨k,ax,fa⟩:=b' (f:=ae.bh) au;have hm:=ae.hg (d8 ax);have aw:=a8 k ak ak (o5 ay.2 (d8 ax));rw [ae.bJ] at fa aw;refine ej ?_;refine bA.mk (j+1) I au E0 a' kG
   ·rw [h]
    refine bd ?_;refine af.cc [24,23] C I (σ:=Nat) (fun j=>[(25,.int .i64 (j:Int)),(3,.int .i64 (m6 (if f.c7 then f.arg+1 else 0) (f.kids.take j)))]) (fun _=>[]) (fun j=>j≤f.kids.length) (fun j=>f.kids.length-j) 0 (g9 _) E1 a' ?_;rintro j aK I;refine cl ?_;refine af.cond C (fun au=>?_) (fun aV=>?_);rotate_left
    ·have aV:j=f.kids.length:=by simp at aV;omega
     subst aV;rw [ag'];refine fb ?_;exact Fin.cZ I C (aR.of_eq (by rw [aE]))
    have au:j<f.kids.length:=by simpa using au
    obtain ⟨k,ax,fa⟩:=b' (f:=ae.bh) au;have hm:=ae.hg (d8 ax);have aw:=a8 k ak ak (o5 ay.2 (d8 ax));rw [ae.bJ] at fa aw;refine ej ?_;refine bA.mk (j+1) I au E0 a' kG
   ·rw [h]
    refine bd ?_;refine af.cc [24,23] C I (σ:=Nat) (fun j=>[(25,.int .i64 (j:Int)),(3,.int .i64 (m6 (if f.c7 then f.arg+1 else 0) (f.kids.take j)))]) (fun _=>[]) (fun j=>j≤f.kids.length) (fun j=>f.kids.length-j) 0 (g9 _) E1 a' ?_;rintro j aK I;refine cl ?_;refine af.cond C (fun au=>?_) (fun aV=>?_);rotate_left
    ·have aV:j=f.kids.length:=by simp at aV;omega
     subst aV;rw [ag'];refine fb ?_;exact Fin.cZ I C (aR.of_eq (by rw [aE]))
    have au:j<f.kids.length:=by simpa using au
    obtain ⟨k,ax,fa⟩:=b' (f:=ae.bh) au;have hm:=ae.hg (d8 ax);have aw:=a8 k ak ak (o5 ay.2 (d8 ax));rw [ae.bJ] at fa aw;refine ej ?_;refine bA.mk (j+1) I au E0 a' kG
  | false=>
   have ad:(f.op==2)=false:=by unfold ae.c7 at aE;simp at aE ⊢;omega
   have aj:(f.op==3)=false:=by unfold ae.c7 at aE;simp at aE ⊢;omega
   have bk:(f.op==4)=false:=by unfold ae.c7 at aE;simp at aE ⊢;omega
   refine cX ?_;refine ab.eP 9 C ad ?_;refine fB ?_;refine ab.eP 14 C aj ?_;refine jQ ?_;refine af.cond C (fun h=>by rw [bk] at h;cases h) (fun _=>?_);refine bd ?_;refine af.cc [24,23] C I (σ:=Nat) (fun j=>[(25,.int .i64 (j:Int)),(3,.int .i64 (m6 (if f.c7 then f.arg+1 else 0) (f.kids.take j)))]) (fun _=>[]) (fun j=>j≤f.kids.length) (fun j=>f.kids.length-j) 0 (g9 _) E1 a' ?_;rintro j aK I;refine cl ?_;refine af.cond C (fun au=>?_) (fun aV=>?_);rotate_left
   ·have aV:j=f.kids.length:=by simp at aV;omega
    subst aV;rw [ag'];refine fb ?_;exact Fin.cZ I C (aR.of_eq (by rw [aE]))
   have au:j<f.kids.length:=by simpa using au
   obtain ⟨k,ax,fa⟩:=b' (f:=ae.bh) au;have hm:=ae.hg (d8 ax);have aw:=a8 k ak ak (o5 ay.2 (d8 ax));rw [ae.bJ] at fa aw;refine ej ?_;refine bA.mk (j+1) I au E0 a' kG
theorem aaZ {w:World} {p:bV} {x:Value} (h:Rel w p x uz):x = .iface 392 (.agg #[]):=by
 cases h with
 | iface _ y _ h=>
 cases h with
 | agg cs xs h=>
 generalize iC:cs.toList=l at h;cases h;have:cs = #[]:=by rw [← as1 (xs:=cs),iC]
 rw [this]
theorem aa0 (w:World):(Instr.typeAssert (.iface 392 (.agg #[])) 20 392 true).run d4 w = .ok (.tuple #[.agg #[],.bool true]) w:=by kernel_rfl
theorem aa1 (w:World):(binOp BinOp.neq 20 (.iface 392 (.agg #[])) .nilIface).run d4 w = .ok (.bool true) w:=by kernel_rfl
theorem aa2 (x y:Operand) (w:World):(eqGuard BinOp.neq 20 x y (.iface 392 (.agg #[])) .nilIface).run d4 w = .ok () w:=by
 unfold eqGuard;simp
theorem aa3 (b:Nat) (w:World) :
  CallsD d4 326 #[.pointer (some ⟨b,0,none⟩)] .returning w fun e ke w'=>e = .returned (.tuple #[])∧ke = .returning∧w'=w:=by
 refine callsD_of_wpS Tryz.func326 C fun x5 cs hu=>?_
 apply wpS_seq;apply wpS_region;simp [wpOpsS,go_sem,recoverD,hu,Tryz.ntmps326, Exit.thenS];refine wpS_of_wp ?_;go_wp2;cases x5;simp_all [bodyPostS,results,Tryz.results326, Exit.thenS]
theorem aa4 (b:Nat) (w:World) (rest:List PanicEntry) (x:Value) (aq:w.heap[b]? = some (.cells #[x] 4 (0,0))) :
  CallsD d4 326 #[.pointer (some ⟨b,0,none⟩)] (.panicking ({ v := .iface 392 (.agg #[]),recovered:=false }::rest)) w
   fun o ke w'=>o = .returned (.tuple #[])∧ke = .panicking ({ v := .iface 392 (.agg #[]),recovered:=true }::rest)∧w'=(w.alloc (.cells #[] 392)).setRow b #[.bool false]:=by
 refine callsD_of_wpS Tryz.func326 C fun x5 cs hu=>?_
 apply wpS_seq;apply wpS_region;simp [wpOpsS,go_sem,recoverD,hu,Tryz.ntmps326, Exit.thenS];apply wpS_seq;apply wpS_region;simp [wpOpsS,go_sem,Exit.thenS,aa2,aa1];refine wpS_cond (t:=true) (by simp [Act.eval,Act.put]) ?_;simp only [ak2]
 repeat apply wpS_seq
 apply wpS_region;simp [wpOpsS,go_sem,Exit.thenS,aa0];have dH:=(l9 w (.cells #[] 392) b (t6.1 aq).1).trans aq;have cE:(w.alloc (.cells #[] 392)).cell? ⟨b,0,none⟩=some x:=by rw [jN dH];rfl
 have ik:(w.alloc (.cells #[] 392)).frozen? ⟨b,0,none⟩=false:=by simp [World.frozen?,dH]
 have r4:=Pf (x := .bool false) dH;generalize w.alloc (.cells #[] 392)=dq at cE ik r4 ⊢
 repeat apply wpS_seq
 apply wpS_region;simp [wpOpsS,go_sem,Exit.thenS];refine wpS_of_wp ?_;go_wp2;cases x5;simp_all [bodyPostS,results,Tryz.results326, Exit.thenS];refine wpS_of_wp ?_;go_wp2;simp_all [bodyPostS,results,Tryz.results326, Exit.thenS]
def aa5 (uy:ao) (n:Nat) (G B:a6→Prop):b8→Env→ao→Prop
 | .ret,env,an=>env.get? 2=some (.ptr n 0)∧∃ M,an=aT uy M∧Ok uy M∧∃ K,G K∧bm M (.own n) (.box 4 [.bool true]) K
 | .panic x,env,an=>env.get? 2=some (.ptr n 0)∧x=uz∧∃ M,an=aT uy M∧Ok uy M∧∃ y K,B K∧bm M (.own n) (.box 4 [y]) K
 | _,_,_=>False
theorem aa6 (f:FuncId) (first cap:List ag) (nO:a6) (G B:a6→Prop) (h:df d4 (.func f first cap) [] nO (fun o K=>(o = .ret (.bW [])∧G K)∨(o = .panic uz∧B K))) :
  bs d4 279 [.func f first cap] nO (fun o K=>(o = .ret (.bool true)∧G K)∨(o = .ret (.bool false)∧B K)):=by
 intro s aa7;refine ⟨call279, fun w p vs ca eG=>?_⟩;cases eG with
 | cons v0 _ vs _ bn aN=>
 cases aN;unfold tw;refine MJ (T:=[{ target := .fn (.func 326) #[.pointer (some ⟨w.heap.size,0,none⟩)],args := #[] }]) Tryz.func279 C ?_;go_wp2;intro b vh eL;obtain ⟨av,hle,ax,EN⟩:=sx ca (.cells #[Value.bool false] 4) (.box 4 [.bool false]) (fun w' U ad aj=>⟨#[.bool false],U,aj _ _ (.cons _ _ _ _ (.bool _) .nil),fun o aB=>absurd (ca.lt _ _ aB) ak⟩);have I:Ok s ((.own w.heap.size,.box 4 [.bool false])::nO):=⟨av,aa7⟩;refine mN (af.use (N:=6) (env:=[(0,.func f first cap),(2,.ptr w.heap.size 0)]) (s:=aT s ((.own w.heap.size,.box 4 [.bool false])::nO)) (Q:=aa5 s w.heap.size G B) (B:=(w.heap.size+1,[{ target := .fn (.func 326) #[.pointer (some ⟨w.heap.size,0,none⟩)],args := #[] }])) (p:=p) ?_ (by rw [eL];rfl) ⟨by simp,fun t v aD=>?_,EN,⟨[],by simp [marksOf],by simp,by simp⟩,fun l aE=>(by rw [vh] at aE;cases aE),by simp⟩) ?_
 ·clear ax EN av
  generalize w.heap.size=n at I ⊢;refine cX ?_;refine ab.e0 C C C C C C h I (az.there (e:=(.own n,.box 4 [.bool false])) (az.all nO)) ?_ ?_
  ·rintro _ aM (⟨⟨⟩,ep⟩|⟨h,_⟩) I
   ·have al:=bm.app aM (bm.here (L:=[]) (k := .own n) (o := .box 4 [.bool false]))
    rw [d7] at al;refine c9 I ?_;intro I;exact ⟨rfl,_,rfl,I,aM,ep,.here⟩
   ·cases h
  ·rintro x aM (⟨h,_⟩|⟨⟨⟩,cO⟩) I
   ·cases h
   exact ⟨rfl,rfl,_,rfl,I,_,aM,cO,by have:=bm.app aM (bm.here (L:=[]) (k := .own n) (o := .box 4 [.bool false]));rw [d7] at this;exact this⟩
 ·simp only [Env.get?] at aD
  split at aD
  ·rename_i e;cases aD;obtain rfl:=ai3 e
   exact bn.mono hle
  split at aD
  ·rename_i e;cases aD;obtain rfl:=ai3 e
   simp [ak1];exact .ptr _ 0
  ·cases aD
 ·rintro e dm w' ⟨x,e5,an,bg,bY,bf,iM,AX,fa⟩
  obtain ⟨cb,tQ,eK,fI⟩:=iM.defs;obtain ⟨bT,bI,eh,mc⟩:=G3 cb w' iM.wf (fun d aA=>⟨_,(fI d aA).2.1⟩);have bE:c2 w p (hy w' cb) bg:=(hle.trans AX).trans bT;have vi:=ax.trans hle.size fa;have bC:∀ aM,ao.Sub (aT s aM) an→Kept (aT s nO) (aT s aM) w p (hy w' cb) bg:=fun aM gC=>⟨fun aW dH eO=>(eh aW (fun hm=>by have:=(fI aW hm).1;simp only at this;omega)).trans (vi.heap aW dH eO),fun b aq h=>gC.none (vi.la b aq h),vi.lG⟩
  cases bY with
  | exit id=>exact bf.elim
  | normal=>exact bf.elim
  | ret=>
   obtain ⟨bk,M,rfl,jg,aM,ep,pv⟩:=bf;obtain ⟨uA,jk⟩:=pv.perm jg;have gC:ao.Sub (aT s aM) (aT s M):=by rw [uA];exact y8 (k := .own w.heap.size) Mx jk.1
   have x6:=bI.sub gC;obtain ⟨cR,jU,kv,BX⟩:=bI.obj _ _ (pv.get jg);have IQ:cR = #[.bool true]:=by
    generalize aE:cR.toList=Du at kv;cases kv with
    | cons v _ vs _ aD aN=>
    cases aN;cases aD;rw [← as1 (xs:=cR),aE]
   subst IQ;have ky:(hy w' cb).cell? ⟨w.heap.size,0,none⟩=some (.bool true):=by rw [jN jU];rfl
   refine ⟨cb,tQ,eK,fun d aA=>(fI d aA).2.1,?_⟩;refine leaves_cons (f := 326) (args := #[.pointer (some ⟨w.heap.size,0,none⟩)]) bc (by simp [go_sem]) ?_;refine (aa3 w.heap.size _).mono ?_;rintro e ke mO ⟨rfl,rfl,rfl⟩;have x7:dm.tmps[2]?.getD undef = .pointer (some ⟨w.heap.size,0,none⟩):=by
    have:=iM.env 2 _ bk;rw [ak1] at this;exact EM this
   exact ⟨.bool true,by simp [results,Tryz.results279, go_sem,ky,x7],by simp,.ret (.bool true),aT s aM,_,.bool _,⟨aM,rfl,jk.2,.inl ⟨rfl,ep⟩⟩,bE,bC aM gC,x6⟩
  | panic v x dC jr aD=>
   obtain ⟨bk,rfl,M,rfl,jg,y,aM,cO,pv⟩:=bf;obtain ⟨rest,rfl,y5⟩:=jr;obtain rfl:=aaZ aD;obtain ⟨uA,jk⟩:=pv.perm jg;have gC:ao.Sub (aT s aM) (aT s M):=by rw [uA];exact y8 (k := .own w.heap.size) Mx jk.1
   have x6:=bI.sub gC;have fg:=u3 bI.lt (.cells #[] 392) True;have a2:=C3 (s:=aT s aM) (w:=hy w' cb) (p:=bg) (.cells #[] 392) True;obtain ⟨cR,jU,kv,BX⟩:=bI.obj _ _ (pv.get jg);obtain ⟨bv,rfl⟩:∃ bv,cR = #[bv]:=by
    generalize aE:cR.toList=Du at kv;cases kv with
    | cons v _ vs _ aD aN=>
    cases aN;exact ⟨v,by rw [← as1 (xs:=cR),aE]⟩
   have au:w.heap.size<(hy w' cb).heap.size:=(t6.1 jU).1;have BY:=(l9 (hy w' cb) (.cells #[] 392) w.heap.size au).trans jU;have x7:dm.tmps[2]?.getD undef = .pointer (some ⟨w.heap.size,0,none⟩):=by
    have:=iM.env 2 _ bk;rw [ak1] at this;exact EM this
   obtain ⟨dF,c8,du,lh,tM⟩:=Pe (bE.trans fg) ((bC aM gC).trans bE.size a2) (AE x6 _ True) BY (t7 _) (fun o aB=>by
    rcases aB with aB|⟨e,-⟩
    ·exact BX o aB
    ·omega) jk.1 (.bool false)
   have ky:(((hy w' cb).alloc (.cells #[] 392)).setRow w.heap.size #[.bool false]).cell? ⟨w.heap.size,0,none⟩=some (.bool false):=by rw [jN tM];rfl
   refine ⟨cb,tQ,eK,fun d aA=>(fI d aA).2.1,?_⟩;refine leaves_cons (f := 326) (args := #[.pointer (some ⟨w.heap.size,0,none⟩)]) bc (by simp [go_sem]) ?_;refine (aa4 w.heap.size _ rest bv jU).mono ?_;rintro e ke mO ⟨rfl,rfl,rfl⟩;have IS:=IL y5;simp only [settle,IS];exact ⟨.bool false,by simp [results,Tryz.results279, go_sem,ky,x7],by simp,.ret (.bool false),aT s aM,_,.bool _,⟨aM,rfl,jk.2,.inr ⟨rfl,cO⟩⟩,dF,c8,du⟩
section
variable {P:Program} {Γ:cz} {N:Nat} {ops:Array Oper} {Q:b8→Env→ao→Prop} {env:Env} {s:ao} {l:List Oper} {o:Oper} {d:Nat} {L R:a6}
def sa (b off n cap:Nat):ag := .ho (.slice (some ⟨b,off,none⟩) n cap)
theorem Jd {t bR:TypeId} {x y:Operand} {a:Act} {val:Value} {w w':World} (ai:o.op = .call { callee := .builtin .copy,args := #[x,y],argTypes := #[t,bR] }) (h:(Builtin.copy_ #[t,bR] o.type #[a.eval x,a.eval y]).run P w = .ok val w') :
  (execOp a.eval o).run P w = .ok (.value val) w':=by
 unfold execOp;rw [ai];simp only [resolve,invoke,builtin,H1,ai5,i0,List.map_toArray,ai2,aj5,h]
theorem Je (I:Ok s L) {w:World} {p:bV} {b off:Nat} {e:TypeId} {cs ys:List ag} {us:List Value} {vs:Array Value} (ca:dn w p (aT s L)) (al:bm L (.own b) (.box e cs) R) (cx:w.heap[b]? = some (.cells vs e (0,0))) (cE:b4 w p vs.toList cs) (hu:b4 w p us ys) (er:off+ys.length≤cs.length) :
  c2 w p (w.setRow b (vs.toList.take off++us++vs.toList.drop (off+us.length)).toArray) p∧Kept (aT s L) (aT s ((.own b,.box e (cs.take off++ys++cs.drop (off+ys.length)))::R)) w p (w.setRow b (vs.toList.take off++us++vs.toList.drop (off+us.length)).toArray) p ∧
   dn (w.setRow b (vs.toList.take off++us++vs.toList.drop (off+us.length)).toArray) p (aT s ((.own b,.box e (cs.take off++ys++cs.drop (off+ys.length)))::R))∧Ok s ((.own b,.box e (cs.take off++ys++cs.drop (off+ys.length)))::R):=by
 have mV:=hu.length;have sD:=cE.length;have hc:b4 w p (vs.toList.take off++us++vs.toList.drop (off+us.length)) (cs.take off++ys++cs.drop (off+ys.length)):=by
  rw [mV];exact b4.append (b4.append (cE.take _) hu) (cE.drop _)
 obtain ⟨dq,jS,jf⟩:=u' ca (al.get I) (vs':=(vs.toList.take off++us++vs.toList.drop (off+us.length)).toArray) (cs':=cs.take off++ys++cs.drop (off+ys.length)) (fun xq bn=>by
  rw [cx] at bn;cases bn
  rw [ai8] at sD
  simp only [ap2,f0,ah',an0,ai8]
  omega) (by simpa using hc) _ C
 obtain ⟨f1,f2⟩:=al.put (.box e (cs.take off++ys++cs.drop (off+ys.length))) I;rw [f1] at jS jf;exact ⟨dq,jS,jf,f2⟩
theorem aX.Jf (aP:bX P Γ) (I:Ok s L) {t bR e:TypeId} {x y:Operand} {it aJ:bQ} {b off dl q4 b9:Nat} {cs ys:List ag} {dW:bM}
  (ai:o.op = .call { callee := .builtin .copy,args := #[x,y],argTypes := #[t,bR] }) (aN:Γ.get? t=some it) (bw:it.bN = .aF e) (bP:Γ.get? e=some aJ) (U:aJ.size=1) (aa:aL env x=some (sa b off dl q4)) (al:bm L (.own b) (.box e cs) R)
  (ar:aL env y=some (.aF b9 ys dW)) (dN:b9=1) (ew:ys.all eZ=true) (aA:ys.length≤dl) (er:off+ys.length≤cs.length) {X:ag→ao→Prop} :
  aX P N o env (aT s L) (fun r an=>r = .int .i64 ys.length∧an=aT s ((.own b,.box e (cs.take off++ys++cs.drop (off+ys.length)))::R)∧Ok s ((.own b,.box e (cs.take off++ys++cs.drop (off+ys.length)))::R)) X:=by
 refine aX.jZ hZ fun ro B a w p aI=>?_
 have fz:=aI.aL aa;have eH:=aI.aL ar;have ef:=fun val w'=>Jd (P:=P) (a:=a) (val:=val) (w:=w) (w':=w') ai
 generalize dM:a.eval x=dy at fz ef;generalize fj:a.eval y=fX at eH ef;cases fz;obtain ⟨info,d,g1,g2,g3,-⟩:=aP.parts aN;obtain ⟨jv,j0,ck,cL,ev,ee,lj,mg⟩:=aP.parts bP;have cH:d = .slice e:=by rw [bw] at g3;cases d<;>simp [ec] at g3;rw [g3]
 subst cH;subst dN;obtain ⟨us,hq,oT,jw,jd,sA,sB,sC⟩:=pU (sz':=1) eH (.inr rfl);have mV:=hq.length;have ox:∀ x∈us,x.oneCell'=true:=oQ hq ew;have rJ:flat us=us:=qL ox;obtain ⟨vs,cx,cE,dz⟩:=aI.wf.obj _ _ (al.get I);have sD:=cE.length;rw [ai8] at sD;have aE:=jw P;have aZ:=jd P w (fun _ _ _=>rfl);rw [rJ] at aZ;have sL:=run_storeCells_at P b off e us 0 vs w cx ak ox;simp only [as8] at sL;have Jg:Nat.min ys.length dl=ys.length:=ar2 aA;have cI:(Builtin.copy_ #[t,bR] o.type #[.slice (some ⟨b,off,none⟩) dl q4,fX]).run P w = .ok (.int .i64 ys.length) (w.setRow b (vs.toList.take off++us++vs.toList.drop (off+us.length)).toArray):=by
  simp [Builtin.copy_,run_underlying g2,sizeOf,typeInfo,ck,ee,U,aE,Jg,aZ,sL,goInt]
 obtain ⟨dF,c8,du,lh⟩:=Je I aI.wf al cx cE hq er;exact ⟨_,_,_,p,_,ef _ _ cI,dF,c8,du,⟨rfl,rfl,lh⟩,.int _ _⟩
theorem aX.Jh (aP:bX P Γ) (I:Ok s L) {t bR e:TypeId} {x y:Operand} {it aJ:bQ} {b off dl q4 lZ bD E7 k:Nat} {cs:List ag}
    (ai:o.op = .call { callee := .builtin .copy,args := #[x,y],argTypes := #[t,bR] }) (aN:Γ.get? t=some it) (bw:it.bN = .aF e) (bP:Γ.get? e=some aJ) (U:aJ.size=1) (aa:aL env x=some (sa b off dl q4)) (al:bm L (.own b) (.box e cs) R)
    (ar:aL env y=some (sa b lZ bD E7)) (ax:k=min bD dl) (ew:((cs.drop lZ).take k).all eZ=true) (ad:lZ+k≤cs.length) (er:off+k≤cs.length) {X:ag→ao→Prop} :
    aX P N o env (aT s L) (fun r an=>r = .int .i64 k∧an=aT s ((.own b,.box e (cs.take off++(cs.drop lZ).take k++cs.drop (off+k)))::R)∧Ok s ((.own b,.box e (cs.take off++(cs.drop lZ).take k++cs.drop (off+k)))::R)) X:=by
  refine aX.jZ hZ fun ro B a w p aI=>?_
  have fz:=aI.aL aa;have eH:=aI.aL ar;have ef:=fun val w'=>Jd (P:=P) (a:=a) (val:=val) (w:=w) (w':=w') ai
  generalize dM:a.eval x=dy at fz ef;generalize fj:a.eval y=fX at eH ef;cases fz;cases eH;obtain ⟨info,d,g1,g2,g3,-⟩:=aP.parts aN;obtain ⟨jv,j0,ck,cL,ev,ee,lj,mg⟩:=aP.parts bP;have cH:d = .slice e:=by rw [bw] at g3;cases d<;>simp [ec] at g3;rw [g3]
  subst cH;obtain ⟨vs,cx,cE,dz⟩:=aI.wf.obj _ _ (al.get I);have sD:=cE.length;have qu:b4 w p ((vs.toList.drop lZ).take k) ((cs.drop lZ).take k):=(cE.drop _).take _;have ox:=oQ qu ew;have lJ:((vs.toList.drop lZ).take k).length=k:=by rw [ah',an0];omega
  have cm:((cs.drop lZ).take k).length=k:=by rw [ah',an0];omega
  rw [ai8] at sD
  have cI:=run_copy_row P w t bR o.type e b off dl q4 ⟨b,lZ,none⟩ bD E7 vs e ((vs.toList.drop lZ).take k) g2 (by rw [ck];simp [ee,U]) cx (by rw [lJ,ax]) (fun j u hu=>by
    rw [lf,jN cx]
    rw [al'] at hu
    split at hu
    · rw [List.getElem?_drop] at hu
      simpa using hu
    · cases hu) (by rw [lJ];omega) ox
  rw [lJ] at cI;obtain ⟨dF,c8,du,lh⟩:=Je (off:=off) I aI.wf al cx cE qu (by rw [cm];exact er);rw [lJ] at dF c8 du;rw [cm] at c8 du lh;exact ⟨_,_,_,p,_,ef _ _ cI,dF,c8,du,⟨rfl,rfl,lh⟩,.int _ _⟩
theorem ab.Jf (aP:bX P Γ) (I:Ok s L) {t bR e:TypeId} {x y:Operand} {it aJ:bQ} {b off dl q4 b9:Nat} {cs ys:List ag} {dW:bM} (ay:guardOf ops env o=some true) (aA:o.dst=some d) (a1:af' d N=true)
  (ai:o.op = .call { callee := .builtin .copy,args := #[x,y],argTypes := #[t,bR] }) (aN:Γ.get? t=some it) (bw:it.bN = .aF e) (bP:Γ.get? e=some aJ) (U:aJ.size=1) (aa:aL env x=some (sa b off dl q4)) (al:bm L (.own b) (.box e cs) R)
  (ar:aL env y=some (.aF b9 ys dW)) (dN:b9=1) (ew:ys.all eZ=true) (aa8:ys.length≤dl) (er:off+ys.length≤cs.length)
  (h:Ok s ((.own b,.box e (cs.take off++ys++cs.drop (off+ys.length)))::R)→ab P N ops l Q ((d,.int .i64 ys.length)::env) (aT s ((.own b,.box e (cs.take off++ys++cs.drop (off+ys.length)))::R))):ab P N ops (o::l) Q env (aT s L):=
 ab.op ay aA a1 (aX.Jf aP I ai aN bw bP U aa al ar dN ew aa8 er (X:=fun _ _=>False)) (fun x an ⟨U,ad,aj⟩=>by subst U;subst ad;exact h aj) (fun _ _ h=>h.elim)
theorem bH.Jh {J:ao→Prop} {m:Nat} (i:Nat) (aP:bX P Γ) (I:Ok s L) {t bR e:TypeId} {x y:Operand} {it aJ:bQ} {b off dl q4 lZ bD E7:Nat} (k:Nat) {cs:List ag} (aC:fA l.toArray m (idxs 0 l)=[i]) (aQ:l.toArray[i]? = some o) (aA:o.dst=some d) (a1:af' d N=true)
  (ay:dO l env o)
  (ai:o.op = .call { callee := .builtin .copy,args := #[x,y],argTypes := #[t,bR] }) (aN:Γ.get? t=some it) (bw:it.bN = .aF e) (bP:Γ.get? e=some aJ) (U:aJ.size=1) (aa:aL (cF l env o) x=some (sa b off dl q4)) (al:bm L (.own b) (.box e cs) R)
  (ar:aL (cF l env o) y=some (sa b lZ bD E7)) (ax:k=min bD dl) (ew:((cs.drop lZ).take k).all eZ=true) (ad:lZ+k≤cs.length) (er:off+k≤cs.length)
  (aK:Ok s ((.own b,.box e (cs.take off++(cs.drop lZ).take k++cs.drop (off+k)))::R)→J (aT s ((.own b,.box e (cs.take off++(cs.drop lZ).take k++cs.drop (off+k)))::R))∨m1 l.toArray i=true)
  (h:Ok s ((.own b,.box e (cs.take off++(cs.drop lZ).take k++cs.drop (off+k)))::R)→bH J P Γ N l.toArray Q (cA (m|||2^i)) ((d,.int .i64 k)::env) (aT s ((.own b,.box e (cs.take off++(cs.drop lZ).take k++cs.drop (off+k)))::R))):bH J P Γ N l.toArray Q (cA m) env (aT s L):=
 bH.one aC aQ aA a1 ay (aX.Jh aP I ai aN bw bP U aa al ar ax ew ad er (X:=fun _ _=>False)) (fun x an ⟨U,ad,aj⟩=>by subst U;subst ad;exact aK aj) (fun x an ⟨U,ad,aj⟩=>by subst U;subst ad;exact h aj) (fun _ _ h=>h.elim)
theorem aX.Ji (aP:bX P Γ) {t e:TypeId} {x y:Operand} {it aJ:bQ} {b n cap k:Nat} {kY:IntKind} (ai:o.op = .slice t x (some y) none none) (aN:Γ.get? t=some it) (bw:it.bN = .aF e) (bP:Γ.get? e=some aJ) (U:aJ.size=1) (aa:aL env x=some (dv b n cap)) (ar:aL env y=some (.int kY (k:Int))) (ax:k≤n) (av:n≤cap) (C9:k<cap) :
  aX P N o env s (fun x an=>x=sa b k (n-k) (cap-k)∧an=s) (fun _ _=>False):=by
 refine aX.mR hZ fun ro B a w p aI=>?_
 obtain ⟨info,d,g1,g2,g3,-⟩:=aP.parts aN;obtain ⟨jv,j0,ck,cL,ev,ee,-⟩:=aP.parts bP;have aA:d = .slice e:=by rw [bw] at g3;cases d<;>simp [ec] at g3;rw [g3]
 subst aA;have aC:=aI.aL aa;have eH:=aI.aL ar;generalize dM:a.eval x=dy at aC;generalize fj:a.eval y=fX at eH;cases aC;cases eH;refine .same (val := .slice (some ⟨b,k,none⟩) (n-k) (cap-k)) ?_ (.ho _);unfold execOp;rw [ai];simp only [dM,Option.map_none,an8,fj];refine gb ?_;have hd:(k:Int)≤(n:Int):=by omega
 have r3:(n:Int)≤(cap:Int):=by omega
 have aq:(Instr.sliceBounds true n cap (some (.int kY (k:Int))) none none).run P w = .ok (k,n,cap) w:=by
  simp [Instr.sliceBounds,run_sliceBound,hd,r3]
 have bn:cap-k≠0:=by omega
 simp only [Instr.sliceAt,Instr.slice,H1,run_underlying g2,i0,aq,sizeOf,typeInfo,run_program,ck,ai5,ee,U];simp [bn,lf];intro c4;omega
theorem bH.Ji {J:ao→Prop} {m:Nat} (i:Nat) (aP:bX P Γ) (cU:J s) {t e:TypeId} {x y:Operand} {it aJ:bQ} {b n cap:Nat} (k:Nat) {kY:IntKind} (aC:kR l.toArray m i=true) (aQ:l.toArray[i]? = some o) (aA:o.dst=some d) (a1:af' d N=true)
  (ay:dO l env o) (ai:o.op = .slice t x (some y) none none) (aN:Γ.get? t=some it) (bw:it.bN = .aF e) (bP:Γ.get? e=some aJ) (U:aJ.size=1) (aa:aL (cF l env o) x=some (dv b n cap)) (ar:aL (cF l env o) y=some (.int kY (k:Int))) (ax:k≤n) (av:n≤cap) (C9:k<cap)
  (h:bH J P Γ N l.toArray Q (cA (m|||2^i)) ((d,sa b k (n-k) (cap-k))::env) s):bH J P Γ N l.toArray Q (cA m) env s:=
 bH.xk cU aC aQ aA a1 ay (fun _ _=>aX.Ji aP ai aN bw bP U aa ar ax av C9) h
theorem bH.HF {J:ao→Prop} {m:Nat} (i:Nat) (aP:bX P Γ) (cU:J s) {t e:TypeId} {x y:Operand} {it aJ:bQ} {b n cap:Nat} (k:Nat) {kY:IntKind} (aC:kR l.toArray m i=true) (aQ:l.toArray[i]? = some o) (aA:o.dst=some d) (a1:af' d N=true)
  (ay:dO l env o) (ai:o.op = .slice t x none (some y) none) (aN:Γ.get? t=some it) (bw:it.bN = .aF e) (bP:Γ.get? e=some aJ) (aa:aL (cF l env o) x=some (dv b n cap)) (ar:aL (cF l env o) y=some (.int kY (k:Int))) (ax:k≤cap)
  (h:bH J P Γ N l.toArray Q (cA (m|||2^i)) ((d,dv b k cap)::env) s):bH J P Γ N l.toArray Q (cA m) env s:=
 bH.xk cU aC aQ aA a1 ay (fun _ _=>aX.HF aP ai aN bw bP aa ar ax) h
end
section
variable {J:ao→Prop} {P:Program} {Γ:cz} {N:Nat} {Q:b8→Env→ao→Prop} {env:Env} {s:ao} {l:List Oper} {o:Oper} {d m:Nat}
end
theorem Qa {n:Int} (h:0≤n) (ad:n<18446744073709551616):ai' .u64 n=n:=by
 rw [IntKind.wrap_u64];omega
theorem aa9 {n:Nat} (av:n<4294967296):bitsOf .and .u64 (n:Int) 4294967295=some (n:Int):=by
 have h:=DW (m:=n) (n:=4294967295) ak dh;have e:n &&& 4294967295=n:=by
  rw [show 4294967295=2^32-1 from rfl,Nat.and_two_pow_sub_one_eq_mod,Nat.mod_eq_of_lt av]
 rw [e] at h;exact h
theorem Qb {n:Nat} (av:n<4294967296):Int.fdiv (n:Int) (2^(min (32:Int).toNat (IntKind.bits .u64)))=0:=by
 have:=Bj (m:=n) (c:=32) ak;rw [au2,Nat.div_eq_of_lt ak] at this;exact this
theorem aba (n:Nat) (av:n<4294967296):aY d4 231 [.int .u64 1,.int .u64 (n:Int)] (.bW [.int .u64 0,.int .u64 (n:Int)]):=by
 have aq:=bx;refine aY.bj ah Tryz.func231 C C fun s I=>?_
 have dq:ai' .u64 (1*(n:Int))=(n:Int):=by rw [Int.one_mul];exact Qa ak ak
 have lp:ai' .u64 (0*(n:Int))=0:=by rw [Int.zero_mul];rfl
 refine cX ?_;refine ab.bits 1 C C C C C C dh ?_;refine iR ?_;refine ab.shr 0 C C C C C C ak dh ?_;refine iR ?_;refine ab.bits (n:Int) C C C C C C (aa9 av) ?_;refine iR ?_;refine ab.shr 0 C C C C C C ak (Qb av) ?_;refine gw ?_;refine ab.shr 0 C C C C C C ak (by rw [dq];exact Qb av) ?_;refine iR ?_;refine ab.bits 0 C C C C C C (by rw [lp];decide) ?_;refine iR ?_;refine ab.shr 0 C C C C C C ak (by rw [lp];decide) ?_;refine gw ?_;refine ab.shr 0 C C C C C C ak dh ?_;refine gw ?_;exact Fin.cZ I C (aR.of_eq (by rw [dq];rfl))
theorem abb (n:Nat) (av:n<4294967296):aY d4 174 [.int .u64 1,.int .u64 (n:Int)] (.bW [.int .u64 0,.int .u64 (n:Int)]):=by
 have aq:=bx;refine aY.bj ah Tryz.func174 C C fun s I=>?_
 have U:=aba n av;refine c1 ?_;exact b2 I
theorem abc (z:Int) (n m k:Nat) (h:m+k≤n) (ax:k≤m):((ai0 m z++ai0 (n-m) 0).map ba).take m++(((ai0 m z++ai0 (n-m) 0).map ba).drop 0).take k++((ai0 m z++ai0 (n-m) 0).map ba).drop (m+k)=(ai0 (m+k) z++ai0 (n-(m+k)) 0).map ba:=by
 rw [aq9,← at2,← at2,← List.map_drop,← t8,← t8];congr 1;rw [ao9 bc,al5 ez,List.take_replicate,ar2 ax,List.replicate_append_replicate];congr 1;rw [List.drop_append,as3 bc,d0,am3,aw'];congr 1;omega
theorem Qc (z:Int) (n:Nat) (U:1≤n) (av:n≤1000):bs d4 109 [.aF 1 [.int .i64 z] .clip,.int .i64 (n:Int)] ([]) (fun o K=>∃ b,o = .ret (dv b n n)∧K=[(.own b,.box 3 ((ai0 n z).map ba))]):=by
 have aq:=bx;refine bs.bj ah Tryz.func109 C C fun s I=>?_
 have hm:=abb n ak;have dq:ai' .u64 (n:Int)=(n:Int):=Qa ak ak;have jS:ai' .i64 (n:Int)=(n:Int):=hf ak ak;have hm:aY d4 174 [.int .u64 (ai' .u64 1),.int .u64 (ai' .u64 (n:Int))] (.bW [.int .u64 0,.int .u64 (n:Int)]):=by rw [dq];exact hm
 refine dS ?_;refine af.cond C (fun h=>by simp at h;omega) (fun _=>?_);refine dS ?_;refine ab.IM ah I n C C C C C C C C C C (ak5 (fun z=>some (ag.int .i64 z)) jS) (ak5 (fun z=>some (ag.int .i64 z)) jS) (by show _*8≤_;omega) ak (fun b I=>?_);refine iR ?_;have bn:ai0 n (ag.int .i64 0)=(ai0 n (0:Int)).map ba:=by rw [List.map_replicate];rfl
 refine ab.Jf ah I C C C C C C C C C aO C C C ez ez (fun I=>?_);have BU:(ai0 n (ag.int .i64 0)).take 0++[ag.int .i64 z]++(ai0 n (ag.int .i64 0)).drop (0+[ag.int .i64 z].length)=(ai0 1 z++ai0 (n-1) 0).map ba:=by
  rw [an7,aw'];simp [ba]
 rw [BU] at I ⊢;refine fc ?_;refine af.cc [7] C I (σ:=Nat) (fun m=>[(8,.int .i64 (m:Int))]) (fun m=>[(.own b,.box 3 ((ai0 m z++ai0 (n-m) 0).map ba))]) (fun m=>1≤m∧m≤n) (fun m=>n-m) 1 ⟨t7 _,U⟩ (cy C) a' ?_;rintro m ⟨sE,P6⟩ I;refine iR ?_;refine ab.oy ah C C C C C C C ?_;refine jQ ?_;refine af.cond C (fun au=>?_) (fun aV=>?_);rotate_left
 ·have aV:m=n:=by simp at aV;omega
  subst aV;have pL:(ai0 m z++ai0 (m-m) 0).map ba=(ai0 m z).map ba:=by simp
  rw [pL] at I ⊢;refine dS ?_;exact Fin.bz I C aH a' ⟨b,rfl,rfl⟩
 have au:m<n:=by simp at au;omega
 have jI:((ai0 m z++ai0 (n-m) 0).map ba).length=n:=by simp;omega
 refine fc ?_;refine af.sK (fun _=>True) ah mixed C (bH.run trivial C ?_);refine bH.Ji 3 ah trivial m C C C C C C C C C C C C ak ak ak ?_;refine bH.HF 6 ah trivial m C C C C C C C C C C C ak ?_;refine bH.run trivial C ?_;refine bH.Jh 7 ah I (min m (n-m)) C C C C C C C C C C C .here C C (by rw [aq9,← at2];exact te _) (by rw [jI];omega) (by rw [jI];omega) (fun _ => .inl trivial) (fun I=>?_);rw [abc z n m (min m (n-m)) ak ak] at I ⊢;refine bH.run trivial C (bb.done C ?_);refine jR ?_;exact bA.mk (m+min m (n-m)) I ⟨by omega,by omega⟩ (by repeat (first|exact trivial|refine ⟨⟨_,rfl,aH⟩,?_⟩|refine ⟨⟨_,rfl,aR.of_eq I2⟩,?_⟩)) a' (by show n-(m+min m (n-m))<n-m;omega)
abbrev l0:=Int×Int×Nat
def ni (g:Int→Int→List l0) (isLet:Bool) (size:Int):Nat→List Int→List l0
 | _,[]=>[]
 | i,k::r=>g k (if isLet&&i==1 then size+1 else size)++ni g isLet size (i+1) r
def fw (p:aU) (n:Int):Bool:=decide (n≥0)&&decide (n<(p.nodes.length:Int))
def jJ (p:aU):Nat→Int→Int→List l0
 | 0,n,size=>[(n,size,13)]
 | f+1,n,size=>(n,size,12-f)::(if fw p n then ni (jJ p f) (decide ((p.nodes.getD n.toNat default).op=9)) size 0 (p.nodes.getD n.toNat default).kids else [])
def zO (p:aU) (x:l0):Prop:=fw p x.1=true∧x.2.2≤12
def zP (p:aU) (next:Bool) (x:l0) (out:List Int):Option (List Int):=
 if uv p x.1 out&&decide (x.2.2≤12) then (if lC p next (p.nodes.getD x.1.toNat default) x.2.1 then some (out.set x.1.toNat x.2.1) else none) else none
def foldI (p:aU) (next:Bool):List l0→List Int→Option (List Int)
 | [],out=>some out
 | x::r,out=>(zP p next x out).bind (foldI p next r)
theorem Qd (p:aU) (next:Bool):∀ (l r:List l0) (out:List Int),foldI p next (l++r) out=(foldI p next l out).bind (foldI p next r)
  | [],r,out=>rfl
  | x::l,r,out=>by
    rw [d5,foldI,foldI];cases zP p next x out with
    | none=>rfl
    | some o=>exact Qd p next l r o
theorem Qe (p:aU) (next:Bool) {g:Int→Int→List l0} {h:Int→Int→List Int→Option (List Int)} (ay:∀ k s out,foldI p next (g k s) out=h k s out) (isLet:Bool) (size:Int) :
    ∀ (ks:List Int) (i:Nat) (out:List Int),foldI p next (ni g isLet size i ks) out=x4 h isLet size i ks out
  | [],i,out=>rfl
  | k::r,i,out=>by
    rw [ni,x4,Qd,ay];cases h k (if isLet&&i==1 then size+1 else size) out with
    | none=>rfl
    | some o=>exact Qe p next ay isLet size r (i+1) o
theorem Jj (p:aU) (next:Bool):∀ (f:Nat) (n size:Int) (out:List Int),f≤12→foldI p next (jJ p f n size) out=visitM p next f n size out
  | 0,n,size,out,_=>by
    rw [jJ,foldI,visitM,zP];rw [f4 bc];rfl
  | f+1,n,size,out,aZ=>by
    rw [jJ,foldI,visitM,zP];have aA:decide (((n,size,12-f):l0).2.2≤12)=true:=by simp
    rw [aA,as0];cases al:uv p n out with
    | false=>simp
    | true=>
      have dc:fw p n=true:=by
        unfold uv at al;unfold fw;simp only [d6,f5] at al ⊢;exact ⟨al.1,al.2.1⟩
      simp only [ak2,dc];cases av:lC p next (p.nodes.getD n.toNat default) size with
      | false=>simp
      | true=>
        simp only [ak2];exact Qe p next (fun k s o=>Jj p next f k s o ak) _ _ _ _ _
def B9 (x:l0):ag := .int .i64 x.1
def B' (x:l0):ag := .agg [.int .i64 x.2.1,.int .i64 (x.2.2:Int)]
def Qf (fv:ag) (p:aU) (dQ:Nat):ag := .func 330 [] [.bl [fv] 0,.bl (cj p) 0,.ptr dQ 0]
def yd (fv:ag) (p:aU) (dQ:Nat):ds := .box 395 [Qf fv p dQ]
def abd {α:Type} (Go:List α→a6→Prop) (fu:a6→Prop) (fC:ag→a6→Prop) (rem:List α) (o:eS) (aM:a6):Prop:=
 (o = .ret (.bool true)∧Go rem aM)∨(o = .ret (.bool false)∧fu aM)∨∃ v,o = .panic v∧fC v aM
structure Qg (dQ:Nat) (p:aU) (fv:ag) (Go:List l0→a6→Prop) (fu:a6→Prop) (fC:ag→a6→Prop):Prop where
 call:∀ x rem K,Go (x::rem) K→df d4 fv [B9 x,B' x] K (fun o aM=>(o = .ret (.bool true)∧zO p x∧Go rem aM)∨(o = .ret (.bool false)∧fu aM)∨∃ v,o = .panic v∧fC v aM)
 rS:∀ xs K,Go xs K→∃ R,bm K (.own dQ) (yd fv p dQ) R
theorem abe (p:aU) (aB:e3 p) (dQ:Nat) (fv:ag) (Go:List l0→a6→Prop) (fu:a6→Prop) (fC:ag→a6→Prop) (dR:Qg dQ p fv Go fu fC):∀ (f:Nat),f≤12→∀ (n size:Int),(0≤size∧size+f≤100)→∀ (rest:List l0) (K:a6),Go (jJ p f n size++rest) K →
  bs d4 330 [.int .i64 n,.agg [.int .i64 size,.int .i64 ((13-f:Nat):Int)],.bl [fv] 0,.bl (cj p) 0,.ptr dQ 0] K (abd Go fu fC rest):=by
 have aq:=bx;intro f
 induction f with
 | zero=>
  intro _ n size b6 rest K ep;have aw:=dR.call (n,size,13) rest K ep;unfold B9 B' at aw;refine bs.bj ah Tryz.func330 C C fun s I=>?_
  unfold cj;refine cX ?_;refine ab.e0 C C C C C C aw I (az.all _) ?_ ?_
  ·rintro x aM (⟨_,ay,_⟩|⟨⟨⟩,aA⟩|⟨_,⟨⟩,_⟩) I
   ·exact absurd ay.2 (by show ¬ (13≤12);omega)
   ·rw [d7] at I ⊢
    refine bd ?_;exact Fin.bz I C aH (az.all _) (.inr (.inl ⟨rfl,aA⟩))
  ·rintro x aM (⟨h,_⟩|⟨h,_⟩|⟨v,⟨⟩,aB⟩) I
   ·cases h
   ·cases h
   exact Fin.e1 I aH (az.kA (az.all _)) (.inr (.inr ⟨_,rfl,aB⟩))
 | succ f a8=>
  intro aZ n size b6 rest K ep;have aA:(13-(f+1):Nat)=12-f:=by omega
  rw [aA];rw [jJ,d5] at ep;have aw:=dR.call _ _ K ep;unfold B9 B' at aw;refine bs.bj ah Tryz.func330 C C fun s I=>?_
  unfold cj;refine cX ?_;refine ab.e0 C C C C C C aw I (az.all _) ?_ ?_
  ·rintro x aM (⟨⟨⟩,ay,ep⟩|⟨⟨⟩,aA⟩|⟨_,⟨⟩,_⟩) I
   ·rw [d7] at I ⊢
    obtain ⟨dc,_⟩:=ay;have dc:fw p n=true:=dc;rw [dc,f7 C] at ep;unfold fw at dc;simp only [d6,f5] at dc;obtain ⟨i,rfl⟩:∃ i:Nat,n=i:=⟨n.toNat,by omega⟩;obtain ⟨x,aa,bY⟩:=b' (f:=ff) (l:=p.nodes) (j:=i) ak;have m0:p.nodes.getD ((i:Int)).toNat default=x:=by rw [ai7,d9,aa];rfl
    rw [m0] at ep;have pe:=aB.kids x (d8 aa);unfold ff h4 br at bY;refine bd ?_;refine af.cc [0,3,4,6,21,22] C I (σ:=Nat×a6) (fun q=>[(23,.int .i64 (q.1:Int))]) (fun q=>q.2) (fun q=>q.1≤x.kids.length∧Go (ni (jJ p f) (decide (x.op=9)) size q.1 (x.kids.drop q.1)++rest) q.2) (fun q=>x.kids.length-q.1) (0,aM) ⟨g9 _,ep⟩ (cy C) (az.all _) ?_;rintro ⟨j,BG⟩ ⟨aK,zQ⟩ I;simp only at aK zQ I ⊢;refine cl ?_;refine af.cond C (fun au=>?_) (fun aV=>?_);rotate_left
    ·have aV:j=x.kids.length:=by simp at aV;omega
     subst aV;rw [fe (t7 _),ni,d0] at zQ;refine fb ?_;exact Fin.bz I C aH (az.all _) (.inl ⟨rfl,zQ⟩)
    have au:j<x.kids.length:=by simpa using au
    obtain ⟨k,ax,fa⟩:=b' (f:=ba) au;rw [drop_cons ax,ni,aj0] at zQ;obtain ⟨R,pv⟩:=dR.rS _ _ zQ;have iF:=df.ey (first:=[]) (args:=[.int .i64 k,.agg [.int .i64 (if decide (x.op=9)&&j==1 then size+1 else size),.int .i64 ((13-f:Nat):Int)]]) (cap:=[.bl [fv] 0,.bl (cj p) 0,.ptr dQ 0]) (a8 ak _ _ (by split<;>omega) _ _ zQ);have dq:ai' .i64 (((12-f:Nat):Int)+1)=((13-f:Nat):Int):=by rw [hf ak ak];omega
    have E8:((j:Int)==1)=(j==1):=by rw [aj3];simp;omega
    have E9:decide (x.op=9)=(x.op==9):=rfl;rw [E9,← dq] at iF;unfold cj at iF;unfold yd Qf cj at pv;unfold ba at fa
    repeat (first|(refine vr I ?_;clear I;intro I)|refine ab.c3 ah I rfl rfl rfl rfl rfl rfl rfl (fun cu I=>?_))
    cases oB:(x.op==9) with
    | false=>
     rw [oB,aa'] at iF;simp only [aj2,al0] at iF;refine bd ?_;refine ab.dY ah I C C C C C C (.there pv) bZ ?_;refine kh I ?_;intro I;refine ab.e0 C C C C C C iF I (az.there (az.all BG)) ?_ ?_
     ·rintro _ ib (⟨⟨⟩,Ca⟩|⟨⟨⟩,aA⟩|⟨_,⟨⟩,_⟩) I
      ·refine bd ?_
       exact bA.mk (j+1,ib) I ⟨au,by show Go (ni (jJ p f) (decide (x.op=9)) size (j+1) (aH0 (j+1) x.kids)++rest) ib;rw [E9,oB];exact Ca⟩ ct (az.kA (az.all _)) I3
      ·refine bd ?_
       exact Fin.bz I C aH (az.kA (az.all _)) (.inr (.inl ⟨rfl,aA⟩))
     ·rintro x aM (⟨h,_⟩|⟨h,_⟩|⟨v,⟨⟩,aB⟩) I
      ·cases h
      ·cases h
      exact Fin.e1 I aH (az.kA (az.all _)) (.inr (.inr ⟨_,rfl,aB⟩))
    | true=>
     rw [oB,i8] at iF;refine jQ ?_;cases Qh:(j==1) with
     | false=>
      rw [Qh] at iF E8;simp only [aj2,al0] at iF;refine af.cond C (fun h=>by rw [E8] at h;cases h) (fun _=>?_);refine fc ?_;refine ab.dY ah I C C C C C C (.there pv) bZ ?_;refine kh I ?_;intro I;refine ab.e0 C C C C C C iF I (az.there (az.all BG)) ?_ ?_
      ·rintro _ ib (⟨⟨⟩,Ca⟩|⟨⟨⟩,aA⟩|⟨_,⟨⟩,_⟩) I
       ·refine bd ?_
        exact bA.mk (j+1,ib) I ⟨au,by show Go (ni (jJ p f) (decide (x.op=9)) size (j+1) (aH0 (j+1) x.kids)++rest) ib;rw [E9,oB];exact Ca⟩ ct (az.kA (az.all _)) I3
       ·refine bd ?_
        exact Fin.bz I C aH (az.kA (az.all _)) (.inr (.inl ⟨rfl,aA⟩))
      ·rintro x aM (⟨h,_⟩|⟨h,_⟩|⟨v,⟨⟩,aB⟩) I
       ·cases h
       ·cases h
       exact Fin.e1 I aH (az.kA (az.all _)) (.inr (.inr ⟨_,rfl,aB⟩))
     | true=>
      rw [Qh] at iF E8;simp only [ak2] at iF;have jS:ai' .i64 (size+1)=size+1:=hf ak ak;rw [← jS] at iF;refine af.cond C (fun _=>?_) (fun h=>by rw [E8] at h;cases h);refine c9 I ?_;intro I;refine ab.dY ah I C C C C C C (.there pv) bZ ?_;refine kh I ?_;intro I;refine ab.e0 C C C C C C iF I (az.there (az.all BG)) ?_ ?_
      ·rintro _ ib (⟨⟨⟩,Ca⟩|⟨⟨⟩,aA⟩|⟨_,⟨⟩,_⟩) I
       ·refine bd ?_
        exact bA.mk (j+1,ib) I ⟨au,by show Go (ni (jJ p f) (decide (x.op=9)) size (j+1) (aH0 (j+1) x.kids)++rest) ib;rw [E9,oB];exact Ca⟩ ct (az.kA (az.all _)) I3
       ·refine bd ?_
        exact Fin.bz I C aH (az.kA (az.all _)) (.inr (.inl ⟨rfl,aA⟩))
      ·rintro x aM (⟨h,_⟩|⟨h,_⟩|⟨v,⟨⟩,aB⟩) I
       ·cases h
       ·cases h
       exact Fin.e1 I aH (az.kA (az.all _)) (.inr (.inr ⟨_,rfl,aB⟩))
   ·rw [d7] at I ⊢
    refine bd ?_;exact Fin.bz I C aH (az.all _) (.inr (.inl ⟨rfl,aA⟩))
  ·rintro x aM (⟨h,_⟩|⟨h,_⟩|⟨v,⟨⟩,aB⟩) I
   ·cases h
   ·cases h
   exact Fin.e1 I aH (az.kA (az.all _)) (.inr (.inr ⟨_,rfl,aB⟩))
section
variable {J:ao→Prop} {P:Program} {Γ:cz} {N:Nat} {l:List Oper} {i:Nat} {rest:List Oper} {Q:b8→Env→ao→Prop} {env:Env} {s:ao} {o:Oper} {d:Nat}
theorem aS.E' {g:Operand} {name:String} {h1:Array Operand} {cP:Array TypeId} {t:TypeId} {v:ag} {f:FuncId} {xs:List ag} {r:ag} (ay:dO l env o) (aA:o.dst=some d) (a1:af' d N=true)
  (ai:o.op = .call { callee := .invoke g name,args:=h1,argTypes:=cP }) (aD:aL (cF l env o) g=some (.iface t v)) (bp:gu (cF l env o) h1.toList=some xs) (hm:yT P t name f) (h:aY P f (v::xs) r)
  (ax:aS J P Γ N l (i+1) rest Q ((d,r)::env) s):aS J P Γ N l i (o::rest) Q env s:=
 aS.calm ay aA a1 (fun s _=>(aX.invoke ai aD bp hm (h s)).mono (fun x an h=>by cases h.1;exact ⟨rfl,h.2⟩) (fun x an h=>by cases h.1)) ax
end
theorem abf (p:aU) (aB:e3 p) (n size:Int) (b6:0≤size∧size+12≤100):IP d4 329 [] [.bl (cj p) 0,.bl [.int .i64 n] 0,.bl [.int .i64 size,.int .i64 1] 0] [] B9 B' (zO p) (jJ p 12 n size):=by
 intro l Go fu fC nP K bC;have dR:∀ dQ,Qg dQ p (ml l) (fun xs K=>∃ aM,K=aM++[(.own dQ,yd (ml l) p dQ)]∧Go xs aM) (fun K=>∃ aM,K=aM++[(.own dQ,yd (ml l) p dQ)]∧fu aM) (fun v K=>∃ aM,K=aM++[(.own dQ,yd (ml l) p dQ)]∧fC v aM):=fun dQ=>by
  refine ⟨fun x rem K ⟨aM,e,ay⟩=>?_,fun xs K ⟨aM,e,_⟩=>⟨aM++[],by subst e;exact bm.app aM .here⟩⟩;subst e;refine df.frame (R:=[(.own dQ,yd (ml l) p dQ)]) (nP x rem aM ay) (az.kA (az.fQ aM)) ?_;rintro o lX (⟨rfl,U,h⟩|⟨rfl,h⟩|⟨v,rfl,h⟩)
  ·exact .inl ⟨rfl,U,lX,rfl,h⟩
  ·exact .inr (.inl ⟨rfl,lX,rfl,h⟩)
  ·exact .inr (.inr ⟨v,rfl,lX,rfl,h⟩)
 have hw:=fun dQ=>df.ey (first:=[]) (args:=[.int .i64 n,.agg [.int .i64 size,.int .i64 1]]) (cap:=[.bl [ml l] 0,.bl (cj p) 0,.ptr dQ 0]) (abe p aB dQ (ml l) _ _ _ (dR dQ) 12 (t7 _) n size ak [] (K++[(.own dQ,yd (ml l) p dQ)]) ⟨K,rfl,by rw [d7];exact bC⟩)
 refine bs.bj ah Tryz.func329 C C fun s I=>?_
 rw [d0] at I ⊢
 repeat (first|(refine Mz I ?_;clear I;intro I)|refine ab.c3 ah I rfl rfl rfl rfl rfl rfl rfl (fun cu I=>?_))
 refine ab.e0 C C C C C C (hw cu) I (az.iH (List.perm_append_singleton _ _).symm) ?_ ?_
 ·rintro x _ (⟨⟨⟩,lX,rfl,h⟩|⟨⟨⟩,lX,rfl,h⟩|⟨_,⟨⟩,_⟩) I
  all_goals rw [d7] at I ⊢
  ·refine jQ ?_
   exact Fin.bz I C aH (az.kA (az.fQ lX)) (.inl ⟨rfl,.inl h⟩)
  ·refine jQ ?_
   exact Fin.bz I C aH (az.kA (az.fQ lX)) (.inl ⟨rfl,.inr h⟩)
 ·rintro x _ (⟨h,_⟩|⟨h,_⟩|⟨v,⟨⟩,lX,rfl,h⟩) I
  ·cases h
  ·cases h
  rw [d7] at I ⊢;exact Fin.e1 I aH (az.kA (az.fQ lX)) (.inr ⟨_,rfl,h⟩)
theorem abg (p:aU) (n size d:Int):aY d4 284 [cQ p,.int .i64 n,.agg [.int .i64 size,.int .i64 d]] (.func 329 [] [.bl (cj p) 0,.bl [.int .i64 n] 0,.bl [.int .i64 size,.int .i64 d] 0]):=by
 have aq:=bx;refine aY.bj ah Tryz.func284 C C fun s I=>?_
 unfold cQ cj;refine nM ?_;exact b2 I
theorem Qi:yT d4 350 "consort/bind.many" 429 := Ms gN
theorem Qj:yT d4 352 "consort/bind.many" 430 := Ms gN
theorem Qk (p:aU) (x:eW):(x.op=5∧yc x.op = .iface 352 (.agg [])∧x3 p x=some (p.dX.getD x.n.toNat 0))∨(∃ m,yc x.op=yb m∧x3 p x=some m)∨(yc x.op = .pM∧x3 p x=none):=by
 unfold yc x3;by_cases U:x.op=5
 ·left;rw [f7 U,f7 U];exact ⟨U,rfl,rfl⟩
 rw [f4 U,f4 U];right;by_cases ad:x.op=1∨x.op=2∨x.op=3∨x.op=6∨x.op=18
 ·left;rw [f7 ad,f7 ad];exact ⟨0,rfl,rfl⟩
 rw [f4 ad,f4 ad];by_cases aj:x.op=4∨x.op=8∨x.op=17
 ·left;rw [f7 aj,f7 aj];exact ⟨1,rfl,rfl⟩
 rw [f4 aj,f4 aj];by_cases bk:x.op=7∨x.op=9∨x.op=11∨x.op=12∨x.op=13∨x.op=14∨x.op=15∨x.op=16
 ·left;rw [f7 bk,f7 bk];exact ⟨2,rfl,rfl⟩
 rw [f4 bk,f4 bk];by_cases bF:x.op=10
 ·left;rw [f7 bF,f7 bF];exact ⟨3,rfl,rfl⟩
 right;rw [f4 bF,f4 bF];exact ⟨rfl,rfl⟩
theorem v7 {m l:Int}:((some m==some l)=true)↔l=m:=by
 rw [ao7,ap7.injEq];exact eq_comm
def gi (d' b:Nat) (out:List Int):a6:=[(.own d',.box 23 [dv b out.length out.length]),(.own b,.box 3 (out.map ba))]
def abh (d' b:Nat) (len:Nat) (r:Option (List Int)) (o:eS) (K:a6):Prop:=
 ∃ out,out.length=len∧K=gi d' b out∧((o = .ret (.bW [])∧r=some out)∨(o = .panic uz∧r=none))
theorem Ql (p:aU) (aB:e3 p) (agR:p.dX.all (fun n=>decide (n≥1)&&decide (n≤3))=true) (d' b:Nat) (out:List Int) (gq:out.length=p.nodes.length) (pT:p.nodes.length≤120) (n size:Int) (next:Bool) (b6:0≤size∧size≤50) :
  df d4 (.func 283 [] [.bl (cj p) 0,.ptr d' 0]) [.int .i64 n,.int .i64 size,.bool next] (gi d' b out) (abh d' b p.nodes.length (visitM p next 12 n size out)):=by
 have aq:=bx;have jU:=abg p n size 1;have kX:=abf p aB n size ak;refine df.ey (first:=[]) (cap:=[.bl (cj p) 0,.ptr d' 0]) ?_;refine bs.bj ah Tryz.func283 C C fun s I=>?_
 rw [← Jj p next 12 n size out (t7 _)];unfold cQ at jU;unfold cj at *;unfold gi at I;refine c1 ?_;refine af.Pk I C dh dh kX .nil (fun rem K=>∃ b1,b1.length=p.nodes.length∧K=gi d' b b1∧foldI p next (jJ p 12 n size) out=foldI p next rem b1) (fun _ _=>False) (fun v K=>v=uz∧foldI p next (jJ p 12 n size) out=none∧∃ b1,b1.length=p.nodes.length∧K=gi d' b b1) ⟨out,gq,rfl,rfl⟩ ?_ ?_ (fun _ _ h=>h.elim) ?_
 ·rintro s₁ x rem K ⟨b1,cV,rfl,aG⟩ I
  obtain ⟨zR,xs,Jk⟩:=x;unfold B9 B';unfold gi at I ⊢;rw [foldI,zP] at aG;simp only at aG;refine ej ?_;by_cases g1:zR≥0;rotate_left
  ·refine ab.eP 22 C (M2 g1) ?_
   refine nN ?_;refine ab.bL C C C C C (ha _) I .nil ?_ ?_;rotate_left
   ·rintro _ _ ⟨rfl,h⟩ I
    obtain ⟨av,rfl⟩:=gQ h;rw [d0] at I ⊢;exact At.mk (gi d' b b1) I (az.all _) ⟨rfl,(by rw [aG];simp [uv,g1]),b1,cV,rfl⟩
   rintro _ _ ⟨rfl,h⟩ I;obtain ⟨aj,rfl⟩:=gP h;rw [d0] at I ⊢;exact absurd aj bc
  obtain ⟨i,rfl⟩:∃ i:Nat,zR=i:=⟨zR.toNat,by omega⟩;refine ab.fM 22 C (i6 g1) ?_;refine fB ?_;by_cases g2:i<p.nodes.length;rotate_left
  ·refine ab.eP 29 C ez ?_
   refine nN ?_;refine ab.bL C C C C C (ha _) I .nil ?_ ?_;rotate_left
   ·rintro _ _ ⟨rfl,h⟩ I
    obtain ⟨av,rfl⟩:=gQ h;rw [d0] at I ⊢;exact At.mk (gi d' b b1) I (az.all _) ⟨rfl,(by rw [aG];simp [uv,g2]),b1,cV,rfl⟩
   rintro _ _ ⟨rfl,h⟩ I;obtain ⟨aj,rfl⟩:=gP h;rw [d0] at I ⊢;exact absurd aj bc
  refine ab.fM 29 C ez ?_;obtain ⟨z,bO⟩:∃ z,b1[i]? = some z:=⟨_,f8 ak⟩;have abi:b1.getD i 0=z:=by rw [d9,bO];rfl
  have xK:(b1.map ba)[i*1]? = some (.int .i64 z):=by rw [am8,aj6,bO];rfl
  obtain ⟨x,aa,bY⟩:=b' (f:=ff) (l:=p.nodes) (j:=i) g2;have abj:p.nodes.getD i default=x:=by rw [d9,aa];rfl
  rw [ai7,abj] at aG;refine kh I ?_;intro I;refine ab.lq ah i C C C C C C C C C C ak ?_;refine ab.zm ah I C C C C C C aO C xK ?_;refine fB ?_;have ht:uv p (i:Int) b1=decide (z<0):=by
   unfold uv;rw [ai7,abi,i6 g1,show decide ((i:Int)<(p.nodes.length:Int))=true by simp;omega];rfl
  rw [ht] at aG;by_cases g3:z<0;rotate_left
  ·refine ab.eP 36 C (M2 g3) ?_
   refine nN ?_;refine ab.bL C C C C C (ha _) I .nil ?_ ?_;rotate_left
   ·rintro _ _ ⟨rfl,h⟩ I
    obtain ⟨av,rfl⟩:=gQ h;rw [d0] at I ⊢;exact At.mk (gi d' b b1) I (az.all _) ⟨rfl,(by rw [aG];simp [g3]),b1,cV,rfl⟩
   rintro _ _ ⟨rfl,h⟩ I;obtain ⟨aj,rfl⟩:=gP h;rw [d0] at I ⊢;exact absurd aj bc
  refine ab.fM 36 C (i6 g3) ?_;rw [i6 g3,i8] at aG;refine fB ?_;refine ab.bL C C C C C (ha _) I .nil ?_ ?_;rotate_left
  ·rintro _ _ ⟨rfl,h⟩ I
   obtain ⟨av,rfl⟩:=gQ h;rw [d0] at I ⊢;exact At.mk (gi d' b b1) I (az.all _) ⟨rfl,(by rw [aG,show decide (Jk≤12)=false from (by simp at av ⊢;omega)];simp),b1,cV,rfl⟩
  rintro _ _ ⟨rfl,h⟩ I;obtain ⟨aj,rfl⟩:=gP h;rw [d0] at I ⊢;have g4:Jk≤12:=by simp at aj;omega
  rw [i6 g4,f7 C] at aG;have Fa:zO p ((i:Int),xs,Jk):=⟨by unfold fw;simp;omega,g4⟩;have AL:c5 (i*1) [.int .i64 xs] (b1.map ba)=(b1.set i xs).map ba:=by
   rw [ue,am8,List.map_set];rfl
  refine jB I ?_;intro I;refine ab.lq ah i C C C C C C C C C C ak ?_;refine ab.lv ah I _ C C C C C C C C C aO (by rw [f6];show i*1+1≤_;omega) AL (fun I=>?_);have nL:(b1.set i xs).length=p.nodes.length:=by rw [an2];exact cV
  have xN:=aaW p aB x xs;have v8:=aaV x.op;unfold cQ cj ff h4 br at xN;unfold ff h4 br at bY;unfold lC at aG;cases nH:po p x xs with
  | false=>
   rw [nH] at xN;rw [nH,aa',f4 bc] at aG;refine ej ?_;refine ab.bL C C C C C (ha _) I .nil ?_ ?_;rotate_left
   ·rintro _ _ ⟨rfl,h⟩ I
    obtain ⟨av,rfl⟩:=gQ h;rw [d0] at I ⊢;exact At.mk (gi d' b (b1.set i xs)) I (by simp only [gi,an2];exact a') ⟨rfl,aG,(b1.set i xs),nL,rfl⟩
   rintro _ _ ⟨rfl,h⟩ I;obtain ⟨bk,rfl⟩:=gP h;rw [d0] at I ⊢;exact absurd bk bc
  | true=>
  rw [nH] at xN;rw [nH,i8] at aG;cases next with
  | true=>
   rw [ar',i8] at aG;refine ej ?_;refine ab.bL C C C C C (ha _) I .nil ?_ ?_;rotate_left
   ·rintro _ _ ⟨rfl,h⟩ I
    obtain ⟨av,rfl⟩:=gQ h;rw [d0] at I ⊢;exact At.mk (gi d' b (b1.set i xs)) I (by simp only [gi,an2];exact a') ⟨rfl,(absurd av bc),(b1.set i xs),nL,rfl⟩
   rintro _ _ ⟨rfl,h⟩ I;obtain ⟨bk,rfl⟩:=gP h;rw [d0] at I ⊢;rcases Qk p x with ⟨bF,sb,jG⟩|⟨m,sb,jG⟩|⟨sb,jG⟩
   ·rw [sb] at v8
    rw [jG] at aG;have aK:0≤x.n∧x.n<(p.dX.length:Int):=by
     simpa [po,bF] using nH
    obtain ⟨k,ax⟩:∃ k:Nat,x.n=k:=⟨x.n.toNat,by omega⟩;have iE:=P' p x k (p.dX.getD x.n.toNat 0) ax PX;unfold cQ cj ff h4 br at iE;refine c1 ?_;refine aS.E' C C C C C C Qj iE ?_;refine kV ?_;refine aS.bL C C C C C C (ha _) I .nil ?_ ?_;rotate_left
    ·rintro _ _ ⟨rfl,h⟩ I
     obtain ⟨av,rfl⟩:=gQ h;rw [d0] at I ⊢;rw [f6] at av;refine At.mk (gi d' b (b1.set i xs)) I (by simp only [gi,an2];exact a') ⟨rfl,?_,_,nL,rfl⟩;rw [f4 (fun e=>absurd (v7.mp e) r9)] at aG;exact aG
    rintro _ _ ⟨rfl,h⟩ I;obtain ⟨av,rfl⟩:=gP h;rw [d0] at I ⊢;rw [f6] at av;rw [f7 (v7.mpr r9)] at aG;refine eF ?_;exact At.mk (gi d' b (b1.set i xs)) I (by simp only [gi,an2];exact a') ⟨Fa,_,nL,rfl,aG⟩
   ·rw [sb] at v8
    rw [jG] at aG;unfold yb at v8;have iE:=P9 m p x;unfold cQ cj ff h4 br at iE;refine c1 ?_;refine aS.E' C C C C C C Qi iE ?_;refine kV ?_;refine aS.bL C C C C C C (ha _) I .nil ?_ ?_;rotate_left
    ·rintro _ _ ⟨rfl,h⟩ I
     obtain ⟨av,rfl⟩:=gQ h;rw [d0] at I ⊢;rw [f6] at av;refine At.mk (gi d' b (b1.set i xs)) I (by simp only [gi,an2];exact a') ⟨rfl,?_,_,nL,rfl⟩;rw [f4 (fun e=>absurd (v7.mp e) r9)] at aG;exact aG
    rintro _ _ ⟨rfl,h⟩ I;obtain ⟨av,rfl⟩:=gP h;rw [d0] at I ⊢;rw [f6] at av;rw [f7 (v7.mpr r9)] at aG;refine eF ?_;exact At.mk (gi d' b (b1.set i xs)) I (by simp only [gi,an2];exact a') ⟨Fa,_,nL,rfl,aG⟩
   ·rw [sb] at v8
    rw [jG] at aG;have aG:foldI p true (jJ p 12 n size) out=none:=aG;refine c1 ?_;refine ab.bL C C C C C (ha _) I .nil ?_ ?_;rotate_left
    ·rintro _ _ ⟨rfl,h⟩ I
     obtain ⟨av,rfl⟩:=gQ h;rw [d0] at I ⊢;exact At.mk (gi d' b (b1.set i xs)) I (by simp only [gi,an2];exact a') ⟨rfl,aG,(b1.set i xs),nL,rfl⟩
    rintro _ _ ⟨rfl,h⟩ I;obtain ⟨bF,rfl⟩:=gP h;rw [d0] at I ⊢;exact absurd bF bc
  | false=>
   rw [ak4] at aG;refine ej ?_;refine ab.bL C C C C C (ha _) I .nil ?_ ?_;rotate_left
   ·rintro _ _ ⟨rfl,h⟩ I
    obtain ⟨av,rfl⟩:=gQ h;rw [d0] at I ⊢;exact At.mk (gi d' b (b1.set i xs)) I (by simp only [gi,an2];exact a') ⟨rfl,(by rw [show decide (x.op≠18)=false by simpa using av,aa',f4 bc] at aG;exact aG),(b1.set i xs),nL,rfl⟩
   rintro _ _ ⟨rfl,h⟩ I;obtain ⟨bk,rfl⟩:=gP h;rw [d0] at I ⊢;rw [show decide (x.op≠18)=true by simpa using bk,i8] at aG;rcases Qk p x with ⟨bF,sb,jG⟩|⟨m,sb,jG⟩|⟨sb,jG⟩
   ·rw [sb] at v8
    rw [jG] at aG;have aK:0≤x.n∧x.n<(p.dX.length:Int):=by
     simpa [po,bF] using nH
    obtain ⟨k,ax⟩:∃ k:Nat,x.n=k:=⟨x.n.toNat,by omega⟩;have iE:=P' p x k (p.dX.getD x.n.toNat 0) ax PX;unfold cQ cj ff h4 br at iE;refine c1 ?_;refine aS.E' C C C C C C Qj iE ?_;refine kV ?_;refine aS.bL C C C C C C (ha _) I .nil ?_ ?_;rotate_left
    ·rintro _ _ ⟨rfl,h⟩ I
     obtain ⟨av,rfl⟩:=gQ h;rw [d0] at I ⊢;rw [f6] at av;refine At.mk (gi d' b (b1.set i xs)) I (by simp only [gi,an2];exact a') ⟨rfl,?_,_,nL,rfl⟩;rw [f4 (fun e=>absurd (v7.mp e) r9)] at aG;exact aG
    rintro _ _ ⟨rfl,h⟩ I;obtain ⟨av,rfl⟩:=gP h;rw [d0] at I ⊢;rw [f6] at av;rw [f7 (v7.mpr r9)] at aG;refine eF ?_;exact At.mk (gi d' b (b1.set i xs)) I (by simp only [gi,an2];exact a') ⟨Fa,_,nL,rfl,aG⟩
   ·rw [sb] at v8
    rw [jG] at aG;unfold yb at v8;have iE:=P9 m p x;unfold cQ cj ff h4 br at iE;refine c1 ?_;refine aS.E' C C C C C C Qi iE ?_;refine kV ?_;refine aS.bL C C C C C C (ha _) I .nil ?_ ?_;rotate_left
    ·rintro _ _ ⟨rfl,h⟩ I
     obtain ⟨av,rfl⟩:=gQ h;rw [d0] at I ⊢;rw [f6] at av;refine At.mk (gi d' b (b1.set i xs)) I (by simp only [gi,an2];exact a') ⟨rfl,?_,_,nL,rfl⟩;rw [f4 (fun e=>absurd (v7.mp e) r9)] at aG;exact aG
    rintro _ _ ⟨rfl,h⟩ I;obtain ⟨av,rfl⟩:=gP h;rw [d0] at I ⊢;rw [f6] at av;rw [f7 (v7.mpr r9)] at aG;refine eF ?_;exact At.mk (gi d' b (b1.set i xs)) I (by simp only [gi,an2];exact a') ⟨Fa,_,nL,rfl,aG⟩
   ·rw [sb] at v8
    rw [jG] at aG;have aG:foldI p false (jJ p 12 n size) out=none:=aG;refine c1 ?_;refine ab.bL C C C C C (ha _) I .nil ?_ ?_;rotate_left
    ·rintro _ _ ⟨rfl,h⟩ I
     obtain ⟨av,rfl⟩:=gQ h;rw [d0] at I ⊢;exact At.mk (gi d' b (b1.set i xs)) I (by simp only [gi,an2];exact a') ⟨rfl,aG,(b1.set i xs),nL,rfl⟩
    rintro _ _ ⟨rfl,h⟩ I;obtain ⟨bF,rfl⟩:=gP h;rw [d0] at I ⊢;exact absurd bF bc
 ·rintro K ⟨b1,cV,rfl,aG⟩ I
  rw [foldI] at aG;refine eF ?_;exact Fin.bz I C aH (az.all _) ⟨b1,cV,rfl,.inl ⟨rfl,aG⟩⟩
 ·rintro v K ⟨rfl,aG,b1,cV,rfl⟩ I
  exact Fin.e1 I aH (az.all _) ⟨b1,cV,rfl,.inr ⟨rfl,aG⟩⟩
section
variable {J:ao→Prop} {P:Program} {Γ:cz} {N:Nat} {l:List Oper} {i:Nat} {rest:List Oper} {Q:b8→Env→ao→Prop} {env:Env} {s:ao} {o:Oper} {d:Nat}
theorem aS.e0 {L R K:a6} {aik:eS→a6→Prop} {g:Operand} {fv:ag} {h1:Array Operand} {cP:Array TypeId} {xs:List ag} (ay:dO l env o) (aA:o.dst=some d) (a1:af' d N=true) (lV:m1 l.toArray i=true)
  (cG:o.op = .call { callee := .value g,args:=h1,argTypes:=cP }) (aD:aL (cF l env o) g=some fv) (bp:gu (cF l env o) h1.toList=some xs) (h:df P fv xs K aik) (I:Ok s L) (al:az L K R)
  (ax:∀ x aM,aik (.ret x) aM→Ok s (aM++R)→Q .normal ((d,x)::env) (aT s (aM++R))) (aa:∀ x aM,aik (.panic x) aM→Ok s (aM++R)→Q (.panic x) [] (aT s (aM++R))):aS J P Γ N l i [o] Q env (aT s L):=
 aS.last ay aA a1 lV (aX.e0 cG aD bp h I al) (fun x an ⟨aM,U,ad,aj⟩=>by subst U;exact ax x aM aj ad) (fun x an ⟨aM,U,ad,aj⟩=>by subst U;exact aa x aM aj ad)
end
def abk (p:aU) (d':Nat) (o:eS) (K:a6):Prop:=
 (o = .ret (.bW [])∧∃ b out,out.length=p.nodes.length∧pq p=some out∧K=gi d' b out)∨(o = .panic uz∧pq p=none∧∃ v R,K=(.own d',.box 23 [v])::R)
theorem abl (p:aU) (aB:e3 p) (d':Nat) (v0:ag) :
  df d4 (.func 280 [] [.bl (cj p) 0,.ptr d' 0]) [] [(.own d',.box 23 [v0])] (abk p d'):=by
 have aq:=bx;have iC:=aaS p aB;have p1:=aB.dX;have jI:=aB.ya;have pT:=aB.nodes;refine df.ey (first:=[]) (cap:=[.bl (cj p) 0,.ptr d' 0]) ?_;refine bs.bj ah Tryz.func280 C C fun s I=>?_
 have Qm:=P1 p aB;unfold cQ at *;unfold cj br at *;have cK:pq p=pq p:=rfl
 conv at cK=>rhs;unfold pq
 refine cX ?_;refine ab.bL C C C C C iC I .nil ?_ ?_;rotate_left
 ·rintro _ _ ⟨rfl,h⟩ I
  obtain ⟨av,rfl⟩:=gQ h;rw [d0] at I ⊢;exact Fin.e1 I aH (az.all _) (.inr ⟨rfl,by rw [cK,av];rfl,_,_,rfl⟩)
 rintro _ _ ⟨rfl,h⟩ I;obtain ⟨cm,rfl⟩:=gP h;rw [d0] at I ⊢;rw [cm,i8] at cK;have Fb:=O8 cm;have abm:(gI 0 p.ch).length<bK:=by have h:(gI 0 p.ch).length≤40:=Fb.bB;omega
 have Qm:=Qm abm;refine iR ?_;by_cases g1:p.dX.length≤8;rotate_left
 ·refine ab.eP 14 C ez ?_
  refine nN ?_;refine ab.bL C C C C C (ha _) I .nil ?_ ?_;rotate_left
  ·rintro _ _ ⟨rfl,h⟩ I
   obtain ⟨av,rfl⟩:=gQ h;rw [d0] at I ⊢;exact Fin.e1 I aH (az.all _) (.inr ⟨rfl,(by rw [cK];simp [p7,g1]),_,_,rfl⟩)
  rintro _ _ ⟨rfl,h⟩ I;obtain ⟨U,rfl⟩:=gP h;rw [d0] at I ⊢;exact absurd U bc
 refine ab.fM 14 C ez ?_;refine fB ?_;by_cases g2:p.methods.length≤16;rotate_left
 ·refine ab.eP 20 C ez ?_
  refine nN ?_;refine ab.bL C C C C C (ha _) I .nil ?_ ?_;rotate_left
  ·rintro _ _ ⟨rfl,h⟩ I
   obtain ⟨av,rfl⟩:=gQ h;rw [d0] at I ⊢;exact Fin.e1 I aH (az.all _) (.inr ⟨rfl,(by rw [cK];simp [p7,g2]),_,_,rfl⟩)
  rintro _ _ ⟨rfl,h⟩ I;obtain ⟨U,rfl⟩:=gP h;rw [d0] at I ⊢;exact absurd U bc
 refine ab.fM 20 C ez ?_;refine fB ?_;by_cases g3:p.nodes.length≥1;rotate_left
 ·refine ab.eP 26 C ez ?_
  refine nN ?_;refine ab.bL C C C C C (ha _) I .nil ?_ ?_;rotate_left
  ·rintro _ _ ⟨rfl,h⟩ I
   obtain ⟨av,rfl⟩:=gQ h;rw [d0] at I ⊢;exact Fin.e1 I aH (az.all _) (.inr ⟨rfl,(by rw [cK];simp [p7,show ¬ 1≤p.nodes.length by omega]),_,_,rfl⟩)
  rintro _ _ ⟨rfl,h⟩ I;obtain ⟨U,rfl⟩:=gP h;rw [d0] at I ⊢;exact absurd U bc
 refine ab.fM 26 C ez ?_;refine fB ?_;refine ab.bL C C C C C (ha _) I .nil ?_ ?_;rotate_left
 ·rintro _ _ ⟨rfl,h⟩ I
  obtain ⟨av,rfl⟩:=gQ h;rw [d0] at I ⊢;exact Fin.e1 I aH (az.all _) (.inr ⟨rfl,(by rw [cK];simp at av;simp [p7,show ¬ p.nodes.length≤120 by omega]),_,_,rfl⟩)
 rintro _ _ ⟨rfl,h⟩ I;obtain ⟨g4,rfl⟩:=gP h;rw [d0] at I ⊢;have g4:p.nodes.length≤120:=by simp at g4;omega
 have Fc:p7 p=p.dX.all (fun n=>decide (n≥1)&&decide (n≤3)):=by
  unfold p7;rw [i6 g1,i6 g2,i6 g3,i6 g4];rfl
 rw [Fc] at cK;refine bd ?_;refine af.cc [0,1,34,35] C I (σ:=Nat) (fun j=>[(36,.int .i64 (j:Int))]) (fun _=>[(.own d',.box 23 [v0])]) (fun j=>j≤p.dX.length∧p.dX.all (fun n=>decide (n≥1)&&decide (n≤3))=(p.dX.drop j).all (fun n=>decide (n≥1)&&decide (n≤3))) (fun j=>p.dX.length-j) 0 ⟨g9 _,rfl⟩ (cy C) a' ?_;rintro j ⟨aK,aG⟩ I
 try simp only at aK aG I ⊢
 refine cl ?_;refine af.cond C (fun au=>?_) (fun aV=>?_)
 ·have au:j<p.dX.length:=by simpa using au
  obtain ⟨x,aa,bY⟩:=b' (f:=ba) au;rw [drop_cons aa,aq6] at aG;unfold ba at bY;refine fc ?_;by_cases g5:x≥1;rotate_left
  ·refine ab.eP 42 C (M2 g5) ?_
   refine nN ?_;refine ab.bL C C C C C (ha _) I .nil ?_ ?_;rotate_left
   ·rintro _ _ ⟨rfl,h⟩ I
    obtain ⟨av,rfl⟩:=gQ h;rw [d0] at I ⊢;exact Fin.e1 I aH (az.all _) (.inr ⟨rfl,(by rw [cK,aG,M2 g5];rfl),_,_,rfl⟩)
   rintro _ _ ⟨rfl,h⟩ I;obtain ⟨bF,rfl⟩:=gP h;rw [d0] at I ⊢;exact absurd bF bc
  refine ab.fM 42 C (i6 g5) ?_;rw [i6 g5,i8] at aG;refine fB ?_;refine ab.bL C C C C C (ha _) I .nil ?_ ?_;rotate_left
  ·rintro _ _ ⟨rfl,h⟩ I
   obtain ⟨av,rfl⟩:=gQ h;rw [d0] at I ⊢;exact Fin.e1 I aH (az.all _) (.inr ⟨rfl,(by rw [cK,aG,show decide (x≤3)=false from av];rfl),_,_,rfl⟩)
  rintro _ _ ⟨rfl,h⟩ I;obtain ⟨bF,rfl⟩:=gP h;rw [d0] at I ⊢;rw [show decide (x≤3)=true from bF,i8] at aG;refine eF ?_;exact bA.mk (j+1) I ⟨au,aG⟩ ct a' (by show p.dX.length-(j+1)<p.dX.length-j;omega)
 have aV:j=p.dX.length:=by simp at aV;omega
 subst aV;rw [fe (t7 _),ax'] at aG;have Jl:=aG;rw [aG,f7 C] at cK;have Cb:=Qc (-1) p.nodes.length g3 ak;have hlen:((p.nodes.map ff).length:Int)=(p.nodes.length:Int):=by rw [f6]
 refine bd ?_;refine ab.bL rfl rfl rfl rfl x' Cb I .nil ?_ (fun _ _ ⟨_,h,_⟩ _=>by cases h);rintro _ _ ⟨b,⟨⟩,rfl⟩ I;rw [d5,d0] at I ⊢;refine DT I ?_;intro I;refine af.cc [0,1,4,5,57,58] C I (σ:=Nat×List Int) (fun q=>[(59,.int .i64 (q.1:Int))]) (fun q=>gi d' b q.2) (fun q=>q.1≤p.methods.length∧q.2.length=p.nodes.length∧ng p p.methods (ai0 p.nodes.length (-1))=ng p (p.methods.drop q.1) q.2) (fun q=>p.methods.length-q.1) (0,ai0 p.nodes.length (-1)) ⟨g9 _,am3,rfl⟩ (cy C) (by simp only [gi,am3];exact a') ?_;rintro ⟨j,out⟩ ⟨aK,gq,aG⟩ I
 try simp only at aK gq aG I ⊢
 refine cl ?_;refine af.cond C (fun au=>?_) (fun aV=>?_)
 ·have au:j<p.methods.length:=by simpa using au
  obtain ⟨m,aa,bY⟩:=b' (f:=hE) au;have gV:=d8 aa;rw [drop_cons aa,ng] at aG;have b6:=aB.facts m gV;have Cc:=Yk (bU p) Fb m.fact ak;have ht:=aaX (bU p) m.fact.size m.fact (t7 _) ak;rw [ae.bJ] at Cc ht;unfold ae.cells at Cc ht;unfold hE lT at bY;refine ej ?_;by_cases uA:m.kind≥1;rotate_left
  ·refine ab.eP 66 C (M2 uA) ?_
   refine nN ?_;refine ab.bL C C C C C (ha _) I .nil ?_ ?_;rotate_left
   ·rintro _ _ ⟨rfl,h⟩ I
    obtain ⟨av,rfl⟩:=gQ h;rw [d0] at I ⊢;exact Fin.e1 I aH (az.all _) (.inr ⟨rfl,(by rw [cK,aG];simp [s9,uA]),_,_,rfl⟩)
   rintro _ _ ⟨rfl,h⟩ I;obtain ⟨U,rfl⟩:=gP h;rw [d0] at I ⊢;exact absurd U bc
  refine ab.fM 66 C (i6 uA) ?_;refine fB ?_;by_cases jk:m.kind≤4;rotate_left
  ·refine ab.eP 71 C (M2 jk) ?_
   refine nN ?_;refine ab.bL C C C C C (ha _) I .nil ?_ ?_;rotate_left
   ·rintro _ _ ⟨rfl,h⟩ I
    obtain ⟨av,rfl⟩:=gQ h;rw [d0] at I ⊢;exact Fin.e1 I aH (az.all _) (.inr ⟨rfl,(by rw [cK,aG];simp [s9,jk]),_,_,rfl⟩)
   rintro _ _ ⟨rfl,h⟩ I;obtain ⟨U,rfl⟩:=gP h;rw [d0] at I ⊢;exact absurd U bc
  refine ab.fM 71 C (i6 jk) ?_;refine fB ?_;by_cases Cd:m.gen≥0;rotate_left
  ·refine ab.eP 76 C (M2 Cd) ?_
   refine nN ?_;refine ab.bL C C C C C (ha _) I .nil ?_ ?_;rotate_left
   ·rintro _ _ ⟨rfl,h⟩ I
    obtain ⟨av,rfl⟩:=gQ h;rw [d0] at I ⊢;exact Fin.e1 I aH (az.all _) (.inr ⟨rfl,(by rw [cK,aG];simp [s9,Cd]),_,_,rfl⟩)
   rintro _ _ ⟨rfl,h⟩ I;obtain ⟨U,rfl⟩:=gP h;rw [d0] at I ⊢;exact absurd U bc
  refine ab.fM 76 C (i6 Cd) ?_;obtain ⟨g,ay⟩:∃ g:Nat,m.gen=g:=⟨m.gen.toNat,by omega⟩;have abn:s9 p m=(decide (g<p.dX.length)&&(hi (bU p) m.fact&&decide (zf m.fact≤p.dX.getD g 0))):=by
   unfold s9;rw [i6 uA,i6 jk,i6 Cd,ay,ai7];simp
  rw [abn,ay,ai7] at aG;rw [ay];refine fB ?_;refine ab.bL C C C C C (ha _) I .nil ?_ ?_;rotate_left
  ·rintro _ _ ⟨rfl,h⟩ I
   obtain ⟨av,rfl⟩:=gQ h;rw [d0] at I ⊢;exact Fin.e1 I aH (az.all _) (.inr ⟨rfl,(by rw [cK,aG,show decide (g<p.dX.length)=false by simpa using av];rfl),_,_,rfl⟩)
  rintro _ _ ⟨rfl,h⟩ I;obtain ⟨Fe,rfl⟩:=gP h;rw [d0] at I ⊢;have Fe:g<p.dX.length:=by simpa using Fe
  rw [i6 Fe,i8] at aG;obtain ⟨x,zG,abo⟩:=b' (f:=ba) Fe;have m0:p.dX.getD g 0=x:=by rw [d9,zG];rfl
  have agS:1≤x∧x≤3:=by
   have:=ai4.1 Jl x (d8 zG);simpa using this
  rw [m0] at aG;unfold ba at abo;cases aZ:hi (bU p) m.fact with
  | false=>
   rw [aZ] at Cc;simp only [aj2,al0] at Cc;refine vq ?_;refine aS.bL C C C C C C (ha _) I .nil ?_ ?_;rotate_left
   ·rintro _ _ ⟨rfl,h⟩ I
    obtain ⟨av,rfl⟩:=gQ h;rw [d0] at I ⊢;exact Fin.e1 I aH (az.all _) (.inr ⟨rfl,(by rw [cK,aG,aZ];rfl),_,_,rfl⟩)
   rintro _ _ ⟨rfl,h⟩ I;obtain ⟨U,rfl⟩:=gP h;rw [d0] at I ⊢;exact absurd U bc
  | true=>
  rw [aZ,f7 C] at Cc;rw [aZ,i8] at aG;have ht:=ht (xz m.fact (bU p) 12 24 aZ);refine vq ?_;refine aS.bL C C C C C C (ha _) I .nil ?_ ?_;rotate_left
  ·rintro _ _ ⟨rfl,h⟩ I
   obtain ⟨av,rfl⟩:=gQ h;rw [d0] at I ⊢;exact Fin.e1 I aH (az.all _) (.inr ⟨rfl,(by rw [cK,aG,av];rfl),_,_,rfl⟩)
  rintro _ _ ⟨rfl,h⟩ I;obtain ⟨ahU,rfl⟩:=gP h;rw [d0] at I ⊢;rw [ahU,f7 C] at aG;have v':=Ql p aB Jl d' b out gq g4 m.node x (uw m.kind) ak;unfold cj at v';by_cases ax:m.kind=1
  ·rw [ax] at v' aG ⊢
   refine vq ?_;refine aS.e0 C C C C C C C v' I (az.all _) ?_ ?_;rotate_left
   ·rintro _ _ ⟨b1,cV,rfl,(⟨h,_⟩|⟨⟨⟩,aD⟩)⟩ I
    ·cases h
    rw [aD] at aG;exact Fin.e1 I aH (az.all _) (.inr ⟨rfl,by rw [cK,aG];rfl,_,_,rfl⟩)
   rintro _ _ ⟨b1,cV,rfl,(⟨⟨⟩,aD⟩|⟨h,_⟩)⟩ I;rotate_left
   ·cases h
   rw [aD] at aG;rw [d7] at I ⊢;refine eF ?_;exact bA.mk (j+1,b1) I ⟨au,cV,aG⟩ ct (az.all _) r8
  ·have qT:uw m.kind=decide (m.kind=4):=by unfold uw;rw [M2 ax];rfl
   rw [qT] at v' aG;refine vq ?_;refine aS.split 115 C (fun h=>absurd (ao4 h) ax) (fun _=>?_);refine kV ?_;refine aS.e0 C C C C C C C v' I (az.all _) ?_ ?_;rotate_left
   ·rintro _ _ ⟨b1,cV,rfl,(⟨h,_⟩|⟨⟨⟩,aD⟩)⟩ I
    ·cases h
    rw [aD] at aG;exact Fin.e1 I aH (az.all _) (.inr ⟨rfl,by rw [cK,aG];rfl,_,_,rfl⟩)
   rintro _ _ ⟨b1,cV,rfl,(⟨⟨⟩,aD⟩|⟨h,_⟩)⟩ I;rotate_left
   ·cases h
   rw [aD] at aG;rw [d7] at I ⊢;refine eF ?_;exact bA.mk (j+1,b1) I ⟨au,cV,aG⟩ ct (az.all _) r8
 have aV:j=p.methods.length:=by simp at aV;omega
 subst aV;rw [fe (t7 _),ng] at aG;rw [aG] at cK;have v':=Ql p aB Jl d' b out gq g4 p.main 0 false ak;unfold cj at v';refine bd ?_;refine ab.e0 C C C C C C v' I (az.all _) ?_ ?_;rotate_left
 ·rintro _ _ ⟨b1,cV,rfl,(⟨h,_⟩|⟨⟨⟩,aD⟩)⟩ I
  ·cases h
  exact Fin.e1 I aH (az.all _) (.inr ⟨rfl,by rw [cK];show (visitM p false 12 p.main 0 out).bind _=none;rw [aD];rfl,_,_,rfl⟩)
 rintro _ _ ⟨b1,cV,rfl,(⟨⟨⟩,aD⟩|⟨h,_⟩)⟩ I;rotate_left
 ·cases h
 have cK:pq p=if b1.contains (-1) then none else some b1:=by
  rw [cK];show (visitM p false 12 p.main 0 out).bind _=_;rw [aD];rfl
 rw [d7] at I ⊢;have Jm:=Oe b b1.length b1 [] (-1) ak;unfold vH at Jm;rw [d7] at Jm;unfold gi at I;refine jB I ?_;intro I;refine ab.bL rfl rfl rfl rfl rfl Jm I a' ?_ (fun _ _ ⟨h,_⟩ _=>by cases h);rintro _ _ ⟨⟨⟩,rfl⟩ I;simp only [d5,d0] at I ⊢;refine fB ?_;refine ab.bL C C C C C (ha _) I .nil ?_ ?_;rotate_left
 ·rintro _ _ ⟨rfl,h⟩ I
  obtain ⟨av,rfl⟩:=gQ h;rw [d0] at I ⊢;exact Fin.e1 I aH (.cons (.there .here) (.cons .here .nil)) (.inr ⟨rfl,by rw [cK,show b1.contains (-1)=true by simpa using av];rfl,_,_,rfl⟩)
 rintro _ _ ⟨rfl,h⟩ I;obtain ⟨U,rfl⟩:=gP h;rw [d0] at I ⊢;rw [show b1.contains (-1)=false by simpa using U,f4 bc] at cK;refine jQ ?_;exact Fin.bz I C aH (.cons (.there .here) (.cons .here .nil)) (.inl ⟨rfl,b,b1,cV,cK,rfl⟩);done
def abp (p:aU) (o:eS) (K:a6):Prop:=
 (∃ b out,out.length=p.nodes.length∧pq p=some out∧o = .ret (.bW [dv b out.length out.length,.bool true])∧K=[(.own b,.box 3 (out.map ba))])∨(pq p=none∧(∃ v,o = .ret (.bW [v,.bool false]))∧K=[])
theorem abq (p:aU) (aB:e3 p):bs d4 228 [cQ p] ([]) (abp p):=by
 have aq:=bx;refine bs.bj ah Tryz.func228 C C fun s I=>?_
 unfold cQ cj
 repeat (first|(refine DS ?_)|refine ab.c3 ah I C C C C C C C (fun cu I=>?_))
 have aZ:=aa6 280 [] [.bl (cj p) 0,.ptr cu 0] [(.own cu,.box 23 [.aF 0 [] .nil])] (fun K=>∃ b out,out.length=p.nodes.length∧pq p=some out∧K=gi cu b out) (fun K=>pq p=none∧∃ v R,K=(.own cu,.box 23 [v])::R) (df.mono (abl p aB cu (.aF 0 [] .nil)) (fun o K h=>by
  rcases h with ⟨U,b,out,ad,aj,bk⟩|⟨U,ad,aj⟩
  ·exact .inl ⟨U,b,out,ad,aj,bk⟩
  ·exact .inr ⟨U,ad,aj⟩))
 unfold cj at aZ;refine ab.bL C C C C C aZ I a' ?_ ?_;rotate_left
 ·rintro x aM (⟨h,_⟩|⟨h,_⟩) I
  ·cases h
  ·cases h
 rintro x aM (⟨⟨⟩,b,out,aE,e2,rfl⟩|⟨⟨⟩,e2,v,R,rfl⟩) I
 ·unfold gi at I ⊢
  simp only [d5,d0,d7] at I ⊢;refine c9 I ?_;intro I;exact Fin.bz I C aH (.cons (.there .here) .nil) (.inl ⟨b,out,aE,e2,rfl,rfl⟩)
 ·simp only [d5,d0,d7] at I ⊢
  refine c9 I ?_;intro I;exact Fin.bz I C aH .nil (.inr ⟨e2,⟨v,rfl⟩,rfl⟩)
theorem Qn (p:aU) (aB:e3 p):aY d4 172 [cQ p] (.int .i64 (if cS p then 0 else 2)):=by
 have aq:=bx;refine aY.bj ah Tryz.func172 C C fun s I=>?_
 have bO:=abq p aB;unfold cQ cj at *;unfold cS;refine cX ?_;refine ab.bL C C C C C bO I .nil ?_ ?_;rotate_left
 ·rintro x aM (⟨b,out,_,_,h,_⟩|⟨_,⟨v,h⟩,_⟩) I
  ·cases h
  ·cases h
 rintro x aM (⟨b,out,_,e2,⟨⟩,rfl⟩|⟨e2,⟨v,⟨⟩⟩,rfl⟩) I
 ·rw [e2]
  refine bd ?_;exact b2 I
 ·rw [e2]
  refine bd ?_;exact b2 I
def Jn:ag := .agg [.aF 0 [] .nil,.aF 0 [] .nil]
theorem Jo {p:aU} (h:cS p=true):r0 p=true:=by
 unfold cS pq at h;cases aw:r0 p with
 | true=>rfl
 | false=>rw [aw,aa'] at h;cases h
theorem py {p:aU} (h:cS p=true):fJ (bU p):=O8 (Jo h)
theorem Ff (p:aU) (aB:e3 p):aY d4 108 [cQ p] (.bW [if cS p then jD (bU p) else Jn,.int .i64 (if cS p then 0 else 2)]):=by
 have aq:=bx;refine aY.bj ah Tryz.func108 C C fun s I=>?_
 have aw:=Qn p aB;have hw:=P1 p aB;unfold cQ cj at *;cases bu:cS p with
 | false=>
  rw [bu] at aw;unfold Jn
  repeat (first|(refine WO I ?_;clear I;intro I)|refine ab.c3 ah I rfl rfl rfl rfl rfl rfl rfl (fun cu I=>?_)|(refine qJ ?_))
  exact Fin.cZ I (sR C C (bm.get aO I) C C) aH
 | true=>
  rw [bu] at aw;have agT:(gI 0 p.ch).length≤40:=(py bu).bB;have hw:=hw ak;unfold jD fL at *
  repeat (first|(refine WQ I ?_;clear I;intro I)|refine ab.c3 ah I rfl rfl rfl rfl rfl rfl rfl (fun cu I=>?_)|(refine qJ ?_))
  exact Fin.cZ I (sR C C (bm.get aO I) C C) aH
def kH (p:aU) (m:Int):ae:=(p.methods.getD m.toNat default).fact
def tf (p:aU) (m:Int):Int:=(p.methods.getD m.toNat default).kind
def jY (p:aU) (m:Int):Int:=(p.methods.getD m.toNat default).gen
def qa (p:aU) (m n:Int):Bool:=j9 (bU p) (kH p m) (kH p n)
def fF (p:aU) (m n:Int):Bool:=qa p m n && !qa p n m
def wa (dj:Int→Int→Bool) (l:List Int) (m:Int):Bool:=l.all fun n=>decide (m=n)||dj m n
def mG (dj:Int→Int→Bool):Nat→List Int→List Int→List Int×Bool
  | 0,_,out=>(out,false)
  | k+1,l,out=>if l.isEmpty then (out,false) else match l.find? (wa dj l) with
    | none=>(out,true)
    | some m=>mG dj k (l.filter fun x=>x != m) (out++[m])
def chain (dj:Int→Int→Bool) (l:List Int):List Int×Bool:=mG dj (l.length+1) l []
def oH (dj:Int→Int→Bool) (l:List Int) (m:Int):Bool := !l.any fun n=>dj n m
def lD (dj:Int→Int→Bool):Nat→List Int→List Int→List Int
  | 0,_,out=>out
  | k+1,l,out=>if l.isEmpty then out else match l.find? (oH dj l) with
    | none=>out
    | some m=>lD dj k (l.filter fun x=>x != m) (out++[m])
def nj (dj:Int→Int→Bool) (l:List Int):List Int:=lD dj (l.length+1) (hO l) []
structure wb where
 pz:List Int
 zS:Bool
 mH:List Int
 oI:List Int
 Jp:Bool
 nk:List Int
 deriving Inhabited
def hF (p:aU) (l:List Int) (k:Int):List Int:=l.filter fun m=>decide (tf p m=k)
def qb (p:aU) (dj:Int→Int→Bool) (l:List Int):Option wb:=
 if (hF p l 1).isEmpty then none else
  some ⟨(chain dj (hF p l 4)).1,(chain dj (hF p l 4)).2,nj dj (hF p l 2),(chain dj (hF p l 1)).1,(chain dj (hF p l 1)).2,(nj dj (hF p l 3)).reverse⟩
theorem Qo {dj:Int→Int→Bool} {aia:Int→Prop} (Jq:∀ a,aia a→dj a a=false) (Qp:∀ a b c,aia a→aia b→aia c→dj a b=true→dj b c=true→dj a c=true):∀ l:List Int,l≠[]→(∀ m∈l,aia m)→∃ m∈l,oH dj l m=true
  | [],h,_=>absurd C h
  | [a],_,hu=>⟨a,i7.2 C,by unfold oH;simp [Jq a (hu a (i7.2 C))]⟩
  | a::b::r,_,hu=>by
    obtain ⟨m,hm,aE⟩:=Qo Jq Qp (b::r) bc (fun m hm=>hu m (f9 _ hm));have bp:=hu a g8;have Jr:=hu m (f9 _ hm);unfold oH at aE ⊢;rw [aj7,al2] at aE;cases aw:dj a m with
    | false=>
      refine ⟨m,f9 _ hm,?_⟩;rw [ak',aw,ak4,aj7,al2];exact aE
    | true=>
      refine ⟨a,g8,?_⟩;rw [ak',Jq a bp,ak4,aj7,al2];intro n av abr;exact aE n av (Qp n a m (hu n (f9 _ av)) bp Jr abr aw)
def hG (p:aU) (m:Int):Prop:=0≤m∧m<(p.methods.length:Int)
theorem Js {p:aU} (aB:cS p=true) {m:Int} (hm:hG p m):dU (bU p) (kH p m)=true:=by
 have aE:m.toNat<p.methods.length:=by unfold hG at hm;omega
 unfold kH;rw [d9,f8 aE,al1];exact xz _ _ _ _ (qX aB (an9 aE))
theorem abt (p:aU) (a:Int):fF p a a=false:=by unfold fF;cases qa p a a<;>rfl
theorem abu {p:aU} (aB:cS p=true) {a b c:Int} (bp:hG p a) (aq:hG p b) (aw:hG p c) (U:fF p a b=true) (ad:fF p b c=true):fF p a c=true:=by
 have hw:=py aB;have Qq:=Js aB bp;have di:=Js aB aq;have gc:=Js aB aw;unfold fF at *;rw [d6,aj7] at *;refine ⟨imp_trans hw Qq di gc U.1 ad.1,?_⟩;rw [am5];intro h;have:qa p c b=true:=imp_trans hw gc Qq di h U.1;rw [ad.2] at this;cases this
theorem abv {p:aU} (aB:cS p=true):∀ l:List Int,l≠[]→(∀ m∈l,hG p m)→∃ m∈l,oH (fF p) l m=true:=
 Qo (fun a _=>abt p a) (fun _ _ _ bp aq aw=>abu aB bp aq aw)
theorem Qr {Q:List Int→Prop} {g:Int→Int→List Int→Option (List Int)} (isLet:Bool) (size:Int) (bn:0≤size) (ay:∀ k s out o,0≤s→Q out→g k s out=some o→Q o) :
    ∀ (ks:List Int) (i:Nat) (out o:List Int),Q out→x4 g isLet size i ks out=some o→Q o
  | [],i,out,o,bf,h=>by rw [x4] at h;cases h;exact bf
  | k::r,i,out,o,bf,h=>by
    rw [x4] at h;cases ax:g k (if isLet&&i==1 then size+1 else size) out with
    | none=>rw [ax] at h;cases h
    | some kp=>
      rw [ax] at h;exact Qr isLet size bn ay r (i+1) kp o (ay k _ out kp (by split<;>omega) bf ax) h
theorem Qs {p:aU} {next:Bool} {Q:List Int→Prop} (wc:∀ (n:Nat) (size:Int) out,0≤size→Q out→Q (out.set n size)):∀ (f:Nat) (n size:Int) (out o:List Int),0≤size→Q out→visitM p next f n size out=some o→Q o
  | 0,_,_,_,_,_,_,h=>by rw [visitM] at h;cases h
  | f+1,n,size,out,o,bn,bf,h=>by
    rw [visitM] at h;split at h
    · split at h
      · exact Qr _ size bn (fun k s out o al bf h=>Qs wc f k s out o al bf h) _ 0 _ o (wc _ _ _ bn bf) h
      · cases h
    · cases h
theorem Qt {p:aU} {next:Bool} {f:Nat} {n size:Int} {out o:List Int} (bn:0≤size) (bf:∀ x∈out,-1≤x) (h:visitM p next f n size out=some o):∀ x∈o,-1≤x:=
 Qs (Q:=fun l=>∀ x∈l,(-1:Int)≤x) (fun n s l al aE x aa=>by
  rcases List.mem_or_eq_of_mem_set aa with h|h
  ·exact aE x h
  ·omega) f n size out o bn bf h
def b7 (p:aU) (n:Int):eW:=p.nodes.getD n.toNat default
def fU (p:aU):Nat→Int→List Int
 | 0,n=>[n]
 | f+1,n=>n::(if fw p n then (b7 p n).kids.flatMap (fU p f) else [])
def eY (p:aU):Nat→Int→Bool
 | 0,_=>false
 | f+1,n=>fw p n&&(b7 p n).kids.all (eY p f)
theorem Qu {g:Int→Int→List l0} {h:Int→List Int} (ay:∀ k s,(g k s).map (·.1)=h k) (isLet:Bool) (size:Int):∀ (ks:List Int) (i:Nat),(ni g isLet size i ks).map (·.1)=ks.flatMap h
 | [],_=>rfl
 | k::r,i=>by rw [ni,t8,ay,Qu ay isLet size r,am0]
theorem Ce (p:aU):∀ (f:Nat) (n size:Int),(jJ p f n size).map (·.1)=fU p f n
  | 0,n,size=>rfl
  | f+1,n,size=>by
    rw [jJ,fU,ai2];split
    · rw [Qu (fun k s=>Ce p f k s)];rfl
    · rfl
theorem Qv {g:Int→Int→List l0} {Q:Int→Int→Prop} {isLet:Bool} {size:Int} (bn:0≤size) {P:l0→Prop} (uB:∀ k s,0≤s→(∀ x∈g k s,P x)→Q k s):∀ (ks:List Int) (i:Nat),(∀ x∈ni g isLet size i ks,P x)→∀ (j:Nat) (k:Int),ks[j]? = some k→Q k (if isLet&&i+j==1 then size+1 else size)
  | k::r,i,h,0,k',ax=>by
    rw [List.getElem?_cons_zero,ap7.injEq] at ax;subst ax;rw [ni] at h;rw [as8];exact uB _ _ (by split<;>omega) fun x aa=>h x (List.mem_append_left _ aa)
  | k::r,i,h,j+1,k',ax=>by
    rw [List.getElem?_cons_succ] at ax;rw [ni] at h;have:=Qv bn uB r (i+1) (fun x aa=>h x (List.mem_append_right _ aa)) j k' ax;rwa [show i+1+j=i+(j+1) by omega] at this
theorem Qw {p:aU}:∀ (f:Nat) (n size:Int),f≤12→0≤size→(∀ x∈jJ p f n size,zO p x)→eY p f n=true
  | 0,n,size,_,_,h=>by
    have:=(h (n,size,13) (i7.2 C)).2;simp only at this;omega
  | f+1,n,size,aZ,bn,h=>by
    rw [jJ] at h;have U:=(h _ g8).1;simp only at U;rw [f7 U] at h;rw [eY,U,i8,ai4];intro k ax;obtain ⟨j,aK⟩:=an6 ax;exact Qv (Q:=fun k _=>eY p f k=true) (P:=zO p) bn (fun k s al aa=>Qw f k s ak al aa) _ 0 (fun x aa=>h x (f9 _ aa)) j k aK
theorem Qx {g:Int→Int→List l0} (ay:∀ k s,0≤s→∀ x∈g k s,0≤x.2.1) (isLet:Bool) (size:Int) (bn:0≤size):∀ (ks:List Int) (i:Nat),∀ x∈ni g isLet size i ks,0≤x.2.1
  | [],_,x,h=>by cases h
  | k::r,i,x,h=>by
    rw [ni] at h;rcases ab'.1 h with h|h
    · exact ay _ _ (by split<;>omega) x h
    · exact Qx ay isLet size bn r (i+1) x h
theorem Qy {p:aU}:∀ (f:Nat) (n size:Int),0≤size→∀ x∈jJ p f n size,0≤x.2.1
  | 0,n,size,bn,x,h=>by rw [jJ] at h;rw [i7.1 h];exact bn
  | f+1,n,size,bn,x,h=>by
    rw [jJ] at h;rcases ai1.1 h with rfl|h
    · exact bn
    · split at h
      · exact Qx (fun k s al=>Qy f k s al) _ _ bn _ _ x h
      · cases h
theorem Qz {l:List Int} {n m:Nat} {s:Int} (av:n<l.length):(l.set n s).getD m 0=if n=m then s else l.getD m 0:=by
 by_cases e:n=m
 ·subst e
  rw [f7 C,d9,List.getElem?_set_self av];rfl
 ·rw [f4 e,d9,List.getElem?_set_ne e,← d9]
theorem QA {p:aU} {next:Bool}:∀ (l:List l0) (out o:List Int),(∀ x∈l,0≤x.2.1)→out.length=p.nodes.length→foldI p next l out=some o →
    o.length=out.length∧(l.map (·.1)).Nodup∧(∀ x∈l,zO p x∧out.getD x.1.toNat 0<0∧lC p next (b7 p x.1) x.2.1=true)∧∀ n:Int,fw p n=true→(o.getD n.toNat 0≥0↔out.getD n.toNat 0≥0∨n∈l.map (·.1))
  | [],out,o,_,_,h=>by
    rw [foldI] at h;cases h;exact ⟨rfl,at7,fun x h=>by (cases h),fun n _=>by simp⟩
  | x::r,out,o,al,aE,h=>by
    rw [foldI,zP] at h;split at h
    · rename_i ht
      obtain ⟨ht,aA⟩:=at0.1 ht;have aA:=ao4 aA;unfold uv at ht;simp only [d6,f5] at ht;obtain ⟨s1,s2,QB⟩:=ht;have dc:fw p x.1=true:=by unfold fw;simp only [d6,f5];exact ⟨s1,s2⟩
      have Jt:=al x g8;have j1:x.1.toNat<out.length:=by omega
      split at h
      · rename_i av
        rw [ar6] at h;obtain ⟨i1,i2,i3,i4⟩:=QA r _ o (fun y ar=>al y (f9 x ar)) (by rw [an2];exact aE) h;have Fg:∀ y∈r,y.1.toNat≠x.1.toNat∧out.getD y.1.toNat 0<0:=fun y ar=>by
          have:=(i3 y ar).2.1;rw [Qz j1] at this;split at this
          · omega
          · rename_i e;exact ⟨fun e'=>e e'.symm,this⟩
        refine ⟨by rw [i1,an2],?_,fun y ar=>?_,fun n eO=>?_⟩
        · rw [ai2,ar3]
          refine ⟨fun aw=>?_,i2⟩;obtain ⟨y,ar,e⟩:=ae'.1 aw;exact (Fg y ar).1 (by rw [e])
        · rcases ai1.1 ar with rfl|ar
          · exact ⟨⟨dc,aA⟩,QB,av⟩
          · exact ⟨(i3 y ar).1,(Fg y ar).2,(i3 y ar).2.2⟩
        · rw [i4 n eO,Qz j1,ai2,ai1]
          have Iu:0≤n:=by unfold fw at eO;simp only [d6,f5] at eO;omega
          by_cases e:x.1.toNat=n.toNat
          · rw [f7 e]
            have:n=x.1:=by omega
            constructor
            · intro _;exact .inr (.inl this)
            · intro _;exact .inl Jt
          · rw [f4 e]
            have:n≠x.1:=fun h=>e (by rw [h])
            constructor
            · rintro (h|h)
              · exact .inl h
              · exact .inr (.inr h)
            · rintro (h|h|h)
              · exact .inl h
              · exact absurd h this
              · exact .inr h
      · cases h
    · cases h
theorem QC {p:aU} {next:Bool} {n size:Int} {out o:List Int} (bn:0≤size) (aE:out.length=p.nodes.length) (h:visitM p next 12 n size out=some o) :
  o.length=out.length∧(fU p 12 n).Nodup∧eY p 12 n=true∧(∀ k∈fU p 12 n,fw p k=true∧out.getD k.toNat 0<0)∧(∀ x∈jJ p 12 n size,lC p next (b7 p x.1) x.2.1=true)∧∀ k:Int,fw p k=true→(o.getD k.toNat 0≥0↔out.getD k.toNat 0≥0∨k∈fU p 12 n):=by
 rw [← Jj p next 12 n size out (t7 _)] at h;obtain ⟨U,ad,aj,bk⟩:=QA _ out o (Qy 12 n size bn) aE h;rw [Ce] at ad bk;refine ⟨U,ad,Qw 12 n size (t7 _) bn (fun x aa=>(aj x aa).1),fun k ax=>?_,fun x aa=>(aj x aa).2.2,bk⟩;rw [← Ce p 12 n size] at ax;obtain ⟨x,aa,rfl⟩:=ae'.1 ax;exact ⟨(aj x aa).1.1,(aj x aa).2.1⟩
def ye (p:aU) (m:hh):Int:=p.dX.getD m.gen.toNat 0
theorem QD {p:aU} (ay:∀ m∈p.methods,0≤ye p m):∀ (ms:List hh) (out o:List Int),(∀ m∈ms,m∈p.methods)→out.length=p.nodes.length→ng p ms out=some o →
    o.length=out.length∧(ms.flatMap fun m=>fU p 12 m.node).Nodup∧(∀ m∈ms,eY p 12 m.node=true∧∀ x∈jJ p 12 m.node (ye p m),lC p (uw m.kind) (b7 p x.1) x.2.1=true)∧(∀ k∈ms.flatMap fun m=>fU p 12 m.node,fw p k=true∧out.getD k.toNat 0<0)∧∀ k:Int,fw p k=true→(o.getD k.toNat 0≥0↔out.getD k.toNat 0≥0∨k∈ms.flatMap fun m=>fU p 12 m.node)
  | [],out,o,_,_,h=>by
    rw [ng] at h;cases h;exact ⟨rfl,at7,fun x h=>by (cases h),fun x h=>by (cases h),fun n _=>by simp⟩
  | m::r,out,o,al,aE,h=>by
    rw [ng] at h;split at h
    · cases aD:visitM p (uw m.kind) 12 m.node (p.dX.getD m.gen.toNat 0) out with
      | none=>rw [aD] at h;cases h
      | some kp=>
        rw [aD,ar6] at h;obtain ⟨v1,v2,v3,v4,v5,v6⟩:=QC (ay m (al m g8)) aE aD;obtain ⟨i1,i2,i3,i4,i5⟩:=QD ay r kp o (fun y ar=>al y (f9 m ar)) (by rw [v1];exact aE) h;refine ⟨by rw [i1,v1],?_,fun y ar=>?_,fun k ax=>?_,fun k ax=>?_⟩
        · rw [am0,an']
          refine ⟨v2,i2,fun a bp b aq e=>?_⟩;subst e;have U:=(i4 a aq).2;have ad:=(v6 a (v4 a bp).1).2 (.inr bp);omega
        · rcases ai1.1 ar with rfl|ar
          · exact ⟨v3,v5⟩
          · exact i3 y ar
        · rw [am0] at ax
          rcases ab'.1 ax with ax|ax
          · exact v4 k ax
          · refine ⟨(i4 k ax).1,?_⟩
            have U:=(i4 k ax).2;have ad:=v6 k (i4 k ax).1;omega
        · rw [i5 k ax,v6 k ax,am0,ab',or_assoc]
    · cases h
def mI (p:aU):List Int:=p.methods.map hh.node++[p.main]
structure abw (p:aU):Prop where
 fits:∀ r∈mI p,eY p 12 r=true
 nodup:((mI p).flatMap (fU p 12)).Nodup
 sc:∀ n∈(mI p).flatMap (fU p 12),fw p n=true
 all:∀ n,fw p n=true→n∈(mI p).flatMap (fU p 12)
 ya:∀ m∈p.methods,∀ x∈jJ p 12 m.node (ye p m),lC p (uw m.kind) (b7 p x.1) x.2.1=true
 main:∀ x∈jJ p 12 p.main 0,lC p false (b7 p x.1) x.2.1=true
theorem QE {p:aU} (aE:p7 p=true) (m:hh):0≤ye p m:=by
 unfold p7 at aE;simp only [d6,ai4,f5] at aE;unfold ye;rw [d9];cases h:p.dX[m.gen.toNat]? with
 | none=>exact ap8 _
 | some g=>
  have:=aE.2.2.2.2 g (d8 h);rw [al1];omega
theorem QF {p:aU} (ay:∀ m∈p.methods,0≤ye p m):∀ (ms:List hh) (out o:List Int),(∀ m∈ms,m∈p.methods)→(∀ x∈out,-1≤x)→ng p ms out=some o→∀ x∈o,-1≤x
  | [],out,o,_,bf,h=>by rw [ng] at h;cases h;exact bf
  | m::r,out,o,al,bf,h=>by
    rw [ng] at h;split at h
    · cases aD:visitM p (uw m.kind) 12 m.node (p.dX.getD m.gen.toNat 0) out with
      | none=>rw [aD] at h;cases h
      | some kp=>
        rw [aD,ar6] at h;exact QF ay r kp o (fun y ar=>al y (f9 m ar)) (Qt (ay m (al m g8)) bf aD) h
    · cases h
theorem tg {p:aU} (aB:cS p=true):abw p:=by
 unfold cS at aB;obtain ⟨o,ai⟩:=Option.isSome_iff_exists.1 aB;unfold pq at ai;split at ai
 ·rename_i aw
  obtain ⟨-,Fc⟩:=at0.1 aw;cases hm:ng p p.methods (ai0 p.nodes.length (-1)) with
  | none=>rw [hm] at ai;cases ai
  | some kp=>
   rw [hm,ar6] at ai;cases aD:visitM p false 12 p.main 0 kp with
   | none=>rw [aD] at ai;cases ai
   | some b1=>
    rw [aD,ar6] at ai;split at ai
    ·cases ai
    ·rename_i Fg
     obtain ⟨i1,i2,i3,i4,i5⟩:=QD (fun m _=>QE Fc m) p.methods _ kp (fun _ h=>h) (am3) hm;rw [am3] at i1;obtain ⟨v1,v2,v3,v4,v5,v6⟩:=QC (ap8 _) i1 aD;have lY:(mI p).flatMap (fU p 12)=(p.methods.flatMap fun m=>fU p 12 m.node)++fU p 12 p.main:=by
      unfold mI;rw [List.flatMap_append,List.flatMap_map,am0,List.flatMap_nil,d7]
     refine ⟨fun r aC=>?_,?_,fun n av=>?_,fun n av=>?_,fun m mZ=>(i3 m mZ).2,v5⟩
     ·rcases ab'.1 aC with aC|aC
      ·obtain ⟨m,mZ,rfl⟩:=ae'.1 aC
       exact (i3 m mZ).1
      ·rw [i7.1 aC];exact v3
     ·rw [lY,an']
      refine ⟨i2,v2,fun a bp b aq e=>?_⟩;subst e;have U:=(v4 a aq).2;have ad:=(i5 a (v4 a aq).1).2 (.inr bp);omega
     ·rw [lY] at av
      rcases ab'.1 av with av|av
      ·exact (i4 n av).1
      ·exact (v4 n av).1
     ·rw [lY,ab']
      have eO:=av;unfold fw at eO;simp only [d6,f5] at eO;have au:n.toNat<b1.length:=by omega
      have aV:b1.getD n.toNat 0≥0:=by
       rw [d9,f8 au,al1];have QG:b1[n.toNat]∈b1:=an9 au;have vf:b1[n.toNat] ≠ -1:=fun e=>by
        apply Fg;rw [am'];rw [← e];exact QG
       have bf:∀ x∈b1,-1≤x:=Qt (ap8 _) (QF (fun m _=>QE Fc m) p.methods _ kp (fun _ h=>h) (fun x aa=>by
        rw [(List.mem_replicate.1 aa).2];exact ap8 _) hm) aD
       have:=bf _ QG;omega
      rcases (v6 n av).1 aV with h|h
      ·rcases (i5 n av).1 h with h|h
       ·rw [d9,as2,f7 ak,al1] at h
        omega
       ·exact .inl h
      ·exact .inr h
 ·cases ai
theorem Ju {w:bo} (hw:fJ w):∀ (m:Nat) (f:Nat→Bool) (k:Nat),3+m≤k→m≤w.ps.length→fY w.ps m f k=f k
  | 0,f,k,_,_=>rfl
  | m+1,f,k,ax,hm=>by
    obtain ⟨l,aE⟩:∃ l,w.ps[m]? = some l:=⟨_,f8 ak⟩;rw [fY,Ju hw m _ k ak ak,d9,aE,al1];have:l.contains (k:Int)=false:=by
      rw [am5];intro h;have:=tZ hw aE (am'.1 h);omega
    rw [this,Bool.and_false,ao3]
theorem Fh (ps:List (List Int)):∀ (m:Nat) (f g:Nat→Bool),(∀ k,f k=g k)→∀ k,fY ps m f k=fY ps m g k
  | 0,f,g,h,k=>h k
  | m+1,f,g,h,k=>by
    rw [fY,fY];exact Fh ps m _ _ (fun k=>by rw [h,h]) k
theorem Jv {cs:List gG} {w:bo} (hw:fJ w) (mS:w.ps=cs.map gG.parents):∀ (m:Nat) (up out:List Int) (s:Int),m≤cs.length→(s∈nf cs m up out↔s∈out∨∃ j,j<m∧fY w.ps m (fun k=>up.contains (k:Int)) (3+j)=true∧s∈(cs.getD j default).bB)
  | 0,up,out,s,_=>by
    rw [nf];constructor
    · exact .inl
    · rintro (h|⟨j,h,_⟩)
      · exact h
      · omega
  | m+1,up,out,s,hm=>by
    have aE:m<cs.length:=by omega
    have h8:w.ps.length=cs.length:=by rw [mS,f6]
    have abx:w.ps.getD m []=(cs.getD m default).parents:=by
      rw [mS,d9,d9,aj6,f8 aE];rfl
    rw [nf];have eh:((m:Int)+3)=((3+m:Nat):Int):=by omega
    rw [eh];cases hu:up.contains ((3+m:Nat):Int) with
    | true=>
      rw [f7 C,Jv hw mS m _ _ s ak];have aw:∀ k,fY w.ps m (fun k=>(up++(cs.getD m default).parents).contains (k:Int)) k=fY w.ps (m+1) (fun k=>up.contains (k:Int)) k:=fun k=>by
        rw [fY];refine Fh _ _ _ _ (fun k=>?_) k;rw [List.contains_append,hu,i8,abx]
      simp only [aw,ab'];constructor
      · rintro ((h|h)|⟨j,U,ad,aj⟩)
        · exact .inl h
        · exact .inr ⟨m,by omega,by rw [fY,Ju hw m _ _ (t7 _) ak,hu,ar'],h⟩
        · exact .inr ⟨j,by omega,ad,aj⟩
      · rintro (h|⟨j,U,ad,aj⟩)
        · exact .inl (.inl h)
        · rcases am1.1 U with U|rfl
          · exact .inr ⟨j,U,ad,aj⟩
          · exact .inl (.inr aj)
    | false=>
      rw [f4 bc,Jv hw mS m _ _ s ak];have aw:∀ k,fY w.ps (m+1) (fun k=>up.contains (k:Int)) k=fY w.ps m (fun k=>up.contains (k:Int)) k:=fun k=>by
        rw [fY];exact Fh _ _ _ _ (fun k=>by rw [hu,aa',ao3]) k
      simp only [aw];constructor
      · rintro (h|⟨j,U,ad,aj⟩)
        · exact .inl h
        · exact .inr ⟨j,by omega,ad,aj⟩
      · rintro (h|⟨j,U,ad,aj⟩)
        · exact .inl h
        · rcases am1.1 U with U|rfl
          · exact .inr ⟨j,U,ad,aj⟩
          · rw [Ju hw _ _ _ (t7 _) ak,hu] at ad
            cases ad
theorem Jw:∀ {l:List Int} {n m:Int},pn n l=some m→m=n+l.length∧∀ s,s∈l↔n≤s∧s<n+l.length
  | [],n,m,h=>by rw [pn] at h;cases h;exact ⟨by simp,fun s=>by simp⟩
  | x::r,n,m,h=>by
    rw [pn] at h;split at h
    · rename_i aa
      subst aa;obtain ⟨U,ad⟩:=Jw h;refine ⟨by rw [i9];omega,fun s=>?_⟩;rw [ai1,ad,i9];omega
    · cases h
theorem Fi:∀ {l:List gG} {i:Nat} {n m:Int},mB n l=some m→m=n+(gI i l).length∧∀ (j:Nat) (c:gG),l[j]? = some c→∀ s:Int,s∈c.bB↔n≤s∧(gI i l)[(s-n).toNat]? = some ((i:Int)+j+3)
  | [],i,n,m,h=>by rw [mB] at h;cases h;exact ⟨by simp [gI],fun j c h=>by simp at h⟩
  | x::r,i,n,m,h=>by
    rw [mB] at h;split at h
    · cases ax:pn n x.bB with
      | none=>rw [ax] at h;cases h
      | some k=>
        rw [ax,ar6] at h;obtain ⟨U,ad⟩:=Jw ax;obtain ⟨aj,bk⟩:=Fi (i:=i+1) h;refine ⟨by rw [gI,f0,am3];push_cast;omega,fun j c aK s=>?_⟩;rw [gI];cases j with
        | zero=>
          have:x=c:=by simpa using aK
          subst this;rw [ad];constructor
          · intro al
            refine ⟨al.1,?_⟩;rw [ak3 zp,as2,f7 ak];simp
          · rintro ⟨g1,g2⟩
            by_cases al:s<n+x.bB.length
            · exact ⟨g1,al⟩
            · rw [ak0 zp] at g2
              have:=EH r (i+1) _ (d8 g2);omega
        | succ j=>
          rw [bk j c (by simpa using aK)];constructor
          · rintro ⟨g1,g2⟩
            refine ⟨by omega,?_⟩;rw [ak0 zp,am3,show (s-n).toNat-x.bB.length=(s-k).toNat by omega,g2];congr 1;push_cast;omega
          · rintro ⟨g1,g2⟩
            by_cases al:s<k
            · rw [ak3 zp,as2,f7 ak] at g2
              have:=ap7.inj g2;omega
            · rw [ak0 zp,am3,show (s-n).toNat-x.bB.length=(s-k).toNat by omega] at g2
              refine ⟨by omega,g2.trans ?_⟩;congr 1;push_cast;omega
    · cases h
theorem aby {p:aU} {n:Int} (al:mB 0 p.ch=some n) (hw:fJ (bU p)) {i:Nat} (aQ:i<p.ch.length) (s:Int) :
  (lW p i).contains s=(decide (s≥0)&&(decide (s<n)&&((fK (bU p).ps).getD (3+i) 0).testBit ((bU p).owner.getD s.toNat 0).toNat)):=by
 obtain ⟨U,ad⟩:=Fi (i:=0) al;have h8:(bU p).ps.length=p.ch.length:=f6 _;have gq:(bU p).owner=gI 0 p.ch:=rfl;rw [aj3,am'];unfold lW hO;rw [aA1,Jv hw C (i+1) _ _ s ak];have aw:∀ k,fY (bU p).ps (i+1) (fun k=>[(i:Int)+3].contains (k:Int)) k=D1 (bU p) (3+i) k:=fun k=>by
  unfold D1;rw [show 3+i-2=i+1 by omega];refine Fh _ _ _ _ (fun k=>?_) k;rw [aj3,am',i7,f5];omega
 simp only [aw,d6,f5];rw [gq];constructor
 ·rintro (h|⟨j,aK,aq,hm⟩)
  ·cases h
  ·have yU:j<p.ch.length:=by omega
   obtain ⟨c,Cf⟩:∃ c,p.ch[j]? = some c:=⟨_,f8 yU⟩;rw [d9,Cf,al1] at hm;obtain ⟨g1,g2⟩:=(ad j c Cf s).1 hm;rw [aI7] at g2;have g3:=(ac'.1 g2).1;refine ⟨g1,by omega,?_⟩;rw [show (gI 0 p.ch).getD s.toNat 0=((0:Nat):Int)+(j:Int)+3 by rw [d9,g2];rfl,← M6 hw ak ak];rw [show (((0:Nat):Int)+(j:Int)+3).toNat=3+j by omega];exact aq
 ·rintro ⟨g1,g2,g3⟩
  obtain ⟨o,ai⟩:∃ o,(gI 0 p.ch)[s.toNat]? = some o:=⟨_,f8 ak⟩;have vL:=EH p.ch 0 o (d8 ai);rw [show (gI 0 p.ch).getD s.toNat 0=o by rw [d9,ai];rfl] at g3;have hle:=zj hw (3+i+1) (3+i) o.toNat ak ak g3;obtain ⟨j,aK⟩:∃ j:Nat,o=3+(j:Int):=⟨(o-3).toNat,by omega⟩;obtain ⟨c,Cf⟩:∃ c,p.ch[j]? = some c:=⟨_,f8 ak⟩;refine .inr ⟨j,by omega,?_,?_⟩
  ·rw [M6 hw ak ak,show 3+j=o.toNat by omega]
   exact g3
  ·rw [d9,Cf,al1]
   refine (ad j c Cf s).2 ⟨g1,?_⟩;rw [aI7,ai,aK];congr 1;omega
theorem QH:∀ {l m:List Int},l.Pairwise (· < ·)→m.Pairwise (· < ·)→(∀ x,x∈l↔x∈m)→l=m
  | [],[],_,_,_=>rfl
  | [],b::s,_,_,h=>absurd ((h b).2 g8) bc
  | a::r,[],_,_,h=>absurd ((h a).1 g8) bc
  | a::r,b::s,U,ad,h=>by
    obtain ⟨kD,BD⟩:=aA0.1 U;obtain ⟨dF,c8⟩:=aA0.1 ad;have kC:a=b:=by
      rcases ai1.1 ((h a).1 g8) with e|e
      · exact e
      · rcases ai1.1 ((h b).2 g8) with e'|e'
        · exact e'.symm
        · have:=dF a e;have:=kD b e';omega
    subst kC;rw [QH BD c8 (fun x=>?_)];constructor
    · intro aa
      rcases ai1.1 ((h x).1 (f9 _ aa)) with e|e
      · have:=kD x aa;omega
      · exact e
    · intro aa
      rcases ai1.1 ((h x).2 (f9 _ aa)) with e|e
      · have:=dF x aa;omega
      · exact e
theorem abz {l:List Int} (h:l.Nodup):(hO l).Pairwise (· < ·):=by
 have U:(hO l).Pairwise (fun a b=>decide (a≤b)=true):=List.pairwise_mergeSort (fun a b c U ad=>by simp at *;omega) (fun a b=>by simp;omega) l;have ad:(hO l).Nodup:=(List.mergeSort_perm l _).nodup_iff.2 h;refine (U.and ad).imp fun ⟨aj,bk⟩=>?_
 simp at aj;omega
theorem QI:∀ {l:List Int} {n m:Int},pn n l=some m→l.Nodup
  | [],_,_,_=>at7
  | x::r,n,m,h=>by
    rw [pn] at h;split at h
    · rename_i aa
      subst aa;refine ar3.2 ⟨fun aw=>?_,QI h⟩;have:=((Jw h).2 x).1 aw;omega
    · cases h
theorem QJ:∀ {l:List gG} {n m:Int},mB n l=some m→∀ c∈l,c.bB.Nodup
  | x::r,n,m,h,c,aw=>by
    rw [mB] at h;split at h
    · cases ax:pn n x.bB with
      | none=>rw [ax] at h;cases h
      | some k=>
        rw [ax,ar6] at h;rcases ai1.1 aw with rfl|aw
        · exact QI ax
        · exact QJ h c aw
    · cases h
theorem Jx {cs:List gG} (av:∀ j,(cs.getD j default).bB.Nodup) (aA:∀ i j,i≠j→∀ s,s∈(cs.getD i default).bB→s∉(cs.getD j default).bB):∀ (k:Nat) (up out:List Int),out.Nodup→(∀ j,j<k→∀ s∈(cs.getD j default).bB,s∉out)→(nf cs k up out).Nodup
  | 0,up,out,h,_=>h
  | k+1,up,out,h,ad=>by
    rw [nf];split
    · refine Jx av aA k _ _ ?_ fun j aK s al aw=>?_
      · rw [an']
        exact ⟨h,av k,fun a bp b aq e=>ad k (Nat.lt_succ_self _) b aq (e ▸ bp)⟩
      · rcases ab'.1 aw with aw|aw
        · exact ad j ak s al aw
        · exact aA j k ak s al aw
    · exact Jx av aA k _ _ h fun j aK=>ad j ak
def l1 (p:aU) (c:Int):List Int:=tY (bU p) (lu (bU p) c)
theorem abA (w:bo) (m:Nat):(tY w m).Pairwise (· < ·):=by
 unfold tY;rw [List.pairwise_map];exact (aH5.filter _ List.pairwise_lt_range).imp fun h=>by omega
theorem Fj {p:aU} {n:Int} (al:mB 0 p.ch=some n) (hw:fJ (bU p)) {i:Nat} (aQ:i<p.ch.length):lW p i=l1 p ((i:Int)+3):=by
 have eK:(nf p.ch (i+1) [(i:Int)+3] []).Nodup:=by
  refine Jx (fun j=>?_) (fun a b kC s U ad=>?_) (i+1) _ _ at7 (fun _ _ _ _ h=>by cases h)
  ·rw [d9]
   cases h:p.ch[j]? with
   | none=>exact at7
   | some c=>exact QJ al c (d8 h)
  ·rw [d9] at U ad
   obtain ⟨-,g⟩:=Fi (i:=0) al;cases bp:p.ch[a]? with
   | none=>rw [bp] at U;cases U
   | some jt=>
    cases aq:p.ch[b]? with
    | none=>rw [aq] at ad;cases ad
    | some ah5=>
     rw [bp] at U;rw [aq] at ad;have bT:=((g a jt bp s).1 U).2;have bI:=((g b ah5 aq s).1 ad).2;rw [bT] at bI;have:=ap7.inj bI;omega
 unfold l1;refine QH (by unfold lW;exact abz eK) (abA _ _) fun x=>?_
 have U:=aby al hw aQ x;obtain ⟨aj,-⟩:=Fi (i:=0) al;have gq:(bU p).owner=gI 0 p.ch:=rfl;rw [← am',U];unfold tY lu;rw [ae',show ((i:Int)+3).toNat=3+i by omega];simp only [d6,f5,aj1,al4];constructor
 ·rintro ⟨g1,g2,g3⟩
  exact ⟨x.toNat,⟨by rw [gq];omega,g3⟩,by omega⟩
 ·rintro ⟨k,⟨g1,g2⟩,rfl⟩
  rw [gq] at g1;refine ⟨by omega,by omega,?_⟩;rw [ai7];exact g2
def sd (p:aU) (slot d:Int):Option Int:=if d<3 then none else ((p.ch.getD (d-3).toNat default).inits.find? fun x=>decide (x.slot=slot)).map hD.n
def th (p:aU) (c slot:Int):Option Int:=(oD p c.toNat).findSome? (sd p slot)
def ti (p:aU) (c:Int):List hD:=(l1 p c).filterMap fun s=>(th p c s).map fun n=>⟨s,n⟩
def nZ (p:aU) (arg c s:Int):ae:=match th p c s with
 | some n => .mk 4 arg [s] 0 n []
 | none => .mk 2 arg [s] 2 0 []
def tj (p:aU) (arg c:Int):List ae:=
 fl arg c::(((ak6 p.ch.length).filter fun i => !(lu (bU p) c).testBit (3+i)).map fun i:Nat=>(fl arg ((i:Int)+3)).not)++(l1 p c).map (nZ p arg c)
def n0 (arg:Int):ae→ae
 | .mk o a p c n ks=>if o=5 then .mk 5 0 [] 0 0 (ks.map fun k => .mk k.op arg k.path k.cls k.n k.kids) else .mk o arg p c n ks
def tk (p:aU) (arg m:Int):Nat→Int→List ae
 | 0,_=>[]
 | f+1,n=>
  let x:=b7 p n
  if x.op=1 then [.mk 4 arg [] 0 x.n []]
  else if x.op=2 then [fl arg 2]
  else if x.op=3 then (if m≥0∧x.n<p.dX.getD (jY p m).toNat 0 then (k5 (bU p) (kH p m) x.n).map (n0 arg) else [])
  else if x.op=6 then tj p arg x.n
  else if x.op=17 then tk p arg m f (x.kids.getD 0 0)
  else if 12≤x.op∧x.op≤16 then [fl arg 1]
  else []
def n1 (p:aU) (n:Int):Int:=match p.methods.findIdx? fun m=>(fU p 12 m.node).contains n with
 | some i=>(i:Int)
 | none => -1
def kq (p:aU) (m:Int):Int→List Int→List ae
 | _,[]=>[]
 | i,k::r=>tk p i m 12 k++kq p m (i+1) r
def qc (p:aU) (n:Int):List ae:=kq p (n1 p n) 0 (b7 p n).kids
def hP (f:ae):bG:=if f.op=5 then (f.kids.getD 0 default,true) else (f,false)
def qd (p:aU) (n:Int):List Nat:=(nX (bU p) (dG p (b7 p n).n)).filter fun v=>ub (bU p) ((qc p n).map hP++oF (dG p (b7 p n).n) v)
def kI (p:aU) (m:Int):Bool:=(fU p 12 (p.methods.getD m.toNat default).node).any fun n=>decide ((b7 p n).op=18)
def jn (g:Int→Bool):List Int→List Int×Bool
 | []=>([],true)
 | m::r=>if g m then (m::(jn g r).1,(jn g r).2) else ([m],false)
def se (p:aU) (l:List Int):List Int:=match qb p (fF p) l with
 | none=>[]
 | some x=>
  if !(jn (kI p) x.pz).2||x.zS then (jn (kI p) x.pz).1
  else (jn (kI p) x.pz).1++x.mH++(if x.oI.isEmpty then [] else (jn (kI p) x.oI).1++x.nk)
def qe (p:aU) (gen:Int):Bool:=decide (7<(dG p gen).length)
def yf (p:aU) (n m:Nat):Bool:=
 if qe p (b7 p n).n then decide (jY p m=(b7 p n).n) else (qd p n).any fun v=>(jH p (b7 p n).n (dG p (b7 p n).n) v).contains (m:Int)
def yg (p:aU) (n m:Nat):Bool:=
 if qe p (b7 p n).n then decide (jY p m=(b7 p n).n) else (qd p n).any fun v=>(se p (jH p (b7 p n).n (dG p (b7 p n).n) v)).contains (m:Int)
def QK (p:aU) (runs:List Bool) (n:Nat):Bool:=decide (n1 p n<0)||runs.getD (n1 p n).toNat false
structure en where
 hk:List Bool
 runs:List Bool
 deriving Inhabited,DecidableEq
def qf (p:aU) (t:en) (f:Nat→Bool):Bool:=(ak6 p.nodes.length).any fun n=>decide ((b7 p n).op=5)&&(QK p t.runs n&&f n)
def Cg (p:aU) (t:en) (m:Nat):Bool:=t.runs.getD m false||qf p t fun n=>yg p n m
def Jy (p:aU) (t:en) (m:Nat):Bool:=t.hk.getD m false||(qf p t (fun n=>yf p n m)||Cg p t m)
def ic (p:aU) (t:en):en:=⟨(ak6 p.methods.length).map (Jy p t),(ak6 p.methods.length).map (Cg p t)⟩
def kJ (p:aU):en:=⟨ai0 p.methods.length false,ai0 p.methods.length false⟩
def iX (p:aU):Nat→en→en
 | 0,t=>t
 | k+1,t=>iX p k (ic p t)
def qg (p:aU):en:=iX p (2*p.methods.length+1) (kJ p)
def iY (p:aU) (t:en):Bool:=decide (t.hk.length=p.methods.length)&&decide (t.runs.length=p.methods.length)
def zT (p:aU) (t:en):Bool:=decide (ic p t=t)
theorem abB (p:aU) (t:en):(ic p t).hk.length=p.methods.length∧(ic p t).runs.length=p.methods.length:=by
 unfold ic;simp
theorem Fk {n:Nat} (f:Nat→Bool) (m:Nat):((ak6 n).map f).getD m false=(decide (m<n)&&f m):=by
 rw [d9,aj6];by_cases h:m<n
 ·rw [at5 h,i6 h];rfl
 ·rw [am9 ez,M2 h];rfl
def we (a b:en):Prop:=(∀ m,a.hk.getD m false=true→b.hk.getD m false=true)∧∀ m,a.runs.getD m false=true→b.runs.getD m false=true
theorem we.refl (a:en):we a a:=⟨fun _ h=>h,fun _ h=>h⟩
theorem we.trans {a b c:en} (h:we a b) (k:we b c):we a c:=⟨fun m x=>k.1 m (h.1 m x),fun m x=>k.2 m (h.2 m x)⟩
theorem QL {l:List Bool} {m:Nat} (h:l.getD m false=true):m<l.length:=by
 rw [d9] at h;cases aa:l[m]? with
 | none=>rw [aa] at h;cases h
 | some _=>exact (ac'.1 aa).1
theorem abC {p:aU} {t:en} (h:iY p t=true):we t (ic p t):=by
 unfold iY at h;simp only [d6,f5] at h;refine ⟨fun m hm=>?_,fun m hm=>?_⟩
 ·have:=QL hm
  unfold ic;rw [Fk,i6 ak,i8];unfold Jy;rw [hm];rfl
 ·have:=QL hm
  unfold ic;rw [Fk,i6 ak,i8];unfold Cg;rw [hm];rfl
theorem Jz (p:aU):∀ (k:Nat) (t:en),iX p (k+1) t=ic p (iX p k t)
 | 0,_=>rfl
 | k+1,t=>by rw [iX,Jz p k,← iX]
theorem JA {p:aU} {t:en} (h:ic p t=t):∀ k,iX p k t=t
 | 0=>rfl
 | k+1=>by rw [iX,h,JA h k]
theorem JB (p:aU):∀ (a b:Nat) (t:en),iX p (a+b) t=iX p b (iX p a t)
 | 0,b,t=>by rw [aj8];rfl
 | a+1,b,t=>by rw [show a+1+b=(a+b)+1 by omega,iX,JB p a b,iX]
theorem Fl (p:aU):iY p (kJ p)=true:=by unfold iY kJ;simp
theorem JC (p:aU) (t:en):iY p (ic p t)=true:=by unfold iY;simp [abB p t]
theorem Ch (p:aU):∀ (k:Nat) (t:en),iY p t=true→iY p (iX p k t)=true
 | 0,_,h=>h
 | k+1,t,_=>Ch p k _ (JC p t)
def zU (t:en):Nat:=t.hk.count true+t.runs.count true
theorem JD:∀ {a b:List Bool},a.length=b.length→(∀ m,a.getD m false=true→b.getD m false=true)→a.count true≤b.count true∧(a≠b→a.count true<b.count true)
  | [],[],_,_=>⟨t7 _,fun h=>absurd C h⟩
  | x::r,y::s,aE,h=>by
    obtain ⟨i1,i2⟩:=JD (a:=r) (b:=s) (by simpa using aE) (fun m hm=>by have:=h (m+1) (by simpa using hm);simpa using this);have bn:=h 0;simp only [List.getD_cons_zero] at bn;rw [aG3,aG3];cases x<;>cases y<;>simp_all<;>first|omega|(intro cN;first|omega|exact i2 cN)
theorem abD {p:aU} {a b:en} (bp:iY p a=true) (aq:iY p b=true) (h:we a b) (cN:a≠b):zU a<zU b:=by
 unfold iY at bp aq;simp only [d6,f5] at bp aq;obtain ⟨fg,a2⟩:=JD (a:=a.hk) (b:=b.hk) ak h.1;obtain ⟨eD,fh⟩:=JD (a:=a.runs) (b:=b.runs) ak h.2;unfold zU;by_cases e:a.hk=b.hk
 ·have:a.runs≠b.runs:=fun e'=>cN (by cases a;cases b;simp_all)
  have:=fh this;omega
 ·have:=a2 e;omega
theorem QM {p:aU} {t:en} (h:iY p t=true):zU t≤2*p.methods.length:=by
 unfold iY at h;simp only [d6,f5] at h;unfold zU;have U:=aD0 (a:=true) (l:=t.hk);have ad:=aD0 (a:=true) (l:=t.runs);omega
theorem JE {p:aU}:∀ k,ic p (iX p k (kJ p))≠iX p k (kJ p)→k≤zU (iX p k (kJ p))
  | 0,_=>g9 _
  | k+1,h=>by
    rw [Jz] at h ⊢;have ax:ic p (iX p k (kJ p))≠iX p k (kJ p):=fun e=>by rw [e,e] at h;exact h C
    have a8:=JE k ax;have aN:=Ch p k _ (Fl p);have:=abD aN (JC p _) (abC aN) (fun e=>ax e.symm);omega
theorem abE (p:aU):ic p (qg p)=qg p:=by
 by_cases h:ic p (qg p)=qg p
 ·exact h
 ·have U:=JE _ h
  have ad:=QM (Ch p (2*p.methods.length+1) _ (Fl p));omega
theorem JF {p:aU} {k:Nat} (aZ:ic p (iX p k (kJ p))=iX p k (kJ p)):iX p k (kJ p)=qg p:=by
 have bT:iX p (k+(2*p.methods.length+1)) (kJ p)=iX p k (kJ p):=by rw [JB,JA aZ]
 have bI:iX p (2*p.methods.length+1+k) (kJ p)=qg p:=by rw [JB];exact JA (abE p) k
 rw [← bT,← bI,as9]
def yh (p:aU) (n:Nat):Bool:=decide ((b7 p n).op=5)&&(!qe p (b7 p n).n&&(qd p n).all fun v => !(hF p (jH p (b7 p n).n (dG p (b7 p n).n) v) 1).isEmpty)
structure bq where
 a:Nat→Bool
 r:Nat→Bool
def bq.no:bq:=⟨fun _=>false,fun _=>false⟩
def bq.with (t u:bq):bq:=⟨fun m=>t.a m||u.a m||(t.r m||u.r m),fun m=>t.r m||u.r m⟩
def bq.kr (t:bq) (l:List Int):bq:=⟨fun m=>t.a m||l.contains (m:Int),t.r⟩
def bq.hQ (t:bq) (l:List Int):bq:=⟨t.a,fun m=>t.r m||l.contains (m:Int)⟩
def bq.row (f:Nat→Bool):List Bool:=(ak6 16).map f
def bq.jK (t:bq):List Bool:=bq.row t.a++bq.row t.r
theorem bq.qh (f:Nat→Bool):(bq.row f).length=16:=by unfold bq.row;simp
theorem bq.Ci (t:bq):t.jK.length=32:=by unfold bq.jK;simp [bq.qh]
theorem bq.zV {f:Nat→Bool} {m:Nat} (h:m<16):(bq.row f)[m]? = some (f m):=by
 unfold bq.row;rw [aj6,at5 h];rfl
theorem bq.abF {t:bq} {m:Nat} (h:m<16):t.jK[m]? = some (t.a m):=by
 unfold bq.jK;rw [ak3 (by rw [bq.qh];exact h),bq.zV h]
theorem bq.abG {t:bq} {m:Nat} (h:m<16):t.jK[16+m]? = some (t.r m):=by
 unfold bq.jK;rw [ak0 (by rw [bq.qh];omega),bq.qh,show 16+m-16=m by omega,bq.zV h]
theorem bq.JG (f:Nat→Bool) (m:Nat) (b:Bool):(bq.row f).set m b=bq.row (fun i=>if i=m then b else f i):=by
 refine ar0 fun i=>?_
 unfold bq.row;rw [av'];by_cases h:i<16
 ·simp only [aj6,at5 h,an8,f6,List.length_range]
  by_cases e:m=i
  ·subst e;simp [h]
  ·rw [f4 e,f4 (fun h=>e h.symm)]
 ·rw [am9 ez]
  by_cases e:m=i
  ·subst e;simp [h]
  ·rw [f4 e,am9 ez]
theorem bq.QN {f g:Nat→Bool} (h:bq.row f=bq.row g):∀ m,m<16→f m=g m:=fun m hm=>by
 have:=ak5 (fun l=>l[m]?) h;simp only [bq.zV hm] at this;exact ap7.inj this
theorem bq.QO {f g:Nat→Bool} (h:∀ m,m<16→f m=g m):bq.row f=bq.row g:=by
 unfold bq.row;exact List.map_congr_left fun m hm=>h m (al4.1 hm)
def en.iI (t:en):bq:=⟨fun m=>t.hk.getD m false,fun m=>t.runs.getD m false⟩
def en.jK (t:en):List Bool:=t.iI.jK
theorem getD_none {l:List Bool} {m:Nat} (h:l.length≤m):l.getD m false=false:=by
 rw [d9,am9 h];rfl
theorem QP {a b:List Bool} (aE:a.length=b.length) (h:∀ m,m<a.length→a.getD m false=b.getD m false):a=b:=by
 refine List.ext_getElem aE fun m U ad=>?_
 have:=h m U;rwa [d9,d9,f8 U,f8 ad,al1,al1] at this
theorem QQ {p:aU} (q5:p.methods.length≤16) {t u:en} (aN:iY p t=true) (hu:iY p u=true):(t.iI.jK==u.iI.jK)=decide (t=u):=by
 unfold iY at aN hu;simp only [d6,f5] at aN hu;rw [aj3,ao7,f5];constructor
 ·intro h
  unfold bq.jK at h;have U:=List.append_inj h (by rw [bq.qh,bq.qh]);have bp:=QP ak fun m hm=>bq.QN U.1 m ak
  have aC:=QP ak fun m hm=>bq.QN U.2 m ak
  cases t;cases u;simp only at bp aC;rw [bp,aC]
 ·intro h;rw [h]
theorem QR {l:List Bool} (h:l.length≤16):(bq.row fun m=>l.getD m false).take l.length=l:=by
 refine ar0 fun i=>?_
 rw [al'];split
 ·rename_i aQ
  rw [bq.zV ak,d9,f8 aQ];rfl
 ·rename_i aQ
  rw [am9 ak]
def l2 (p:aU) (n:Nat):bq:=⟨fun m=>decide (m<p.methods.length)&&yf p n m,fun m=>decide (m<p.methods.length)&&yg p n m⟩
def pA (p:aU):List (Int×bq):=((ak6 p.nodes.length).filter fun n:Nat=>decide ((b7 p n).op=5)).map fun n:Nat=>(n1 p n,l2 p n)
def pB (t:bq) (o:Int):Bool:=decide (o<0)||t.r o.toNat
def wg (t:bq) (l:List (Int×bq)):bq:=l.foldl (fun o s=>if pB t s.1 then o.with s.2 else o) (t.with bq.no)
theorem bq.ext' {t u:bq} (U:∀ m,t.a m=u.a m) (ad:∀ m,t.r m=u.r m):t=u:=by
 cases t;cases u;simp only [bq.mk.injEq];exact ⟨funext U,funext ad⟩
theorem QS (t:bq) (m:Nat):∀ (l:List (Int×bq)) (o:bq),(l.foldl (fun o s=>if pB t s.1 then o.with s.2 else o) o).r m=(o.r m||l.any fun s=>pB t s.1&&s.2.r m)
  | [],o=>by simp
  | s::l,o=>by
    rw [ak9,QS t m l,ak'];by_cases h:pB t s.1=true
    · rw [f7 h,h];simp [bq.with,ap3]
    · rw [f4 h,am5.2 h];simp
theorem JH (t:bq) (m:Nat):∀ (l:List (Int×bq)) (o:bq),(o.r m=true→o.a m=true)→(l.foldl (fun o s=>if pB t s.1 then o.with s.2 else o) o).a m=(o.a m||l.any fun s=>pB t s.1&&(s.2.a m||s.2.r m))
  | [],o,_=>by simp
  | s::l,o,ai=>by
    rw [ak9,ak'];by_cases h:pB t s.1=true
    · rw [f7 h,h,JH t m l (o.with s.2) (by simp only [bq.with];intro c4;rw [c4];simp)]
      simp only [bq.with,i8];cases aC:o.r m with
      | true=>rw [ai aC];simp
      | false=>simp [ap3]
    · rw [f4 h,am5.2 h,JH t m l o ai];simp
theorem QT {p:aU} {t:en} (aN:iY p t=true):wg t.iI (pA p)=(ic p t).iI:=by
 unfold iY at aN;simp only [d6,f5] at aN;have aI:∀ n:Nat,pB t.iI (n1 p n)=QK p t.runs n:=fun n=>rfl
 have jW:∀ f:Nat→Bool,((pA p).any fun s=>pB t.iI s.1&&false)=false:=fun _=>by simp
 have aw:∀ (m:Nat) (f:bq→Bool),((pA p).any fun s=>pB t.iI s.1&&f s.2)=qf p t fun n=>f (l2 p n):=fun m f=>by
  unfold pA qf;rw [List.any_map,List.any_filter];rfl
 have aq:∀ (m:Nat) (b:Bool) (f:Nat→Bool),qf p t (fun n=>b&&f n)=(b&&qf p t f):=fun m b f=>by
  cases b
  ·simp [qf]
  ·simp
 have e4:∀ m,(wg t.iI (pA p)).r m=(ic p t).iI.r m:=fun m=>by
  unfold wg;rw [QS t.iI m,aw m (fun s=>s.r m)];simp only [l2];rw [aq m];simp only [en.iI,bq.with,bq.no,ao3];unfold ic;simp only;rw [Fk];unfold Cg;by_cases hm:m<p.methods.length
  ·rw [i6 hm,i8,i8]
  ·rw [M2 hm,aa',aa',ao3,getD_none ak]
 refine bq.ext' (fun m=>?_) e4;unfold wg;rw [JH t.iI m _ _ (by simp only [bq.with,bq.no];intro h;rw [h];simp),aw m (fun s=>s.a m||s.r m)];have e:qf p t (fun n=>(l2 p n).a m||(l2 p n).r m)=(decide (m<p.methods.length)&&(qf p t (fun n=>yf p n m)||qf p t (fun n=>yg p n m))):=by
  have bT:(fun n=>(l2 p n).a m||(l2 p n).r m)=fun n=>decide (m<p.methods.length)&&(yf p n m||yg p n m):=by
   funext n;simp only [l2];cases decide (m<p.methods.length)<;>simp
  rw [bT,aq m];congr 1;unfold qf;rw [aj3,aj',ai6,ai6,ai6];simp only [d6,aj'];constructor
  ·rintro ⟨n,av,U,ad,aj|aj⟩
   ·exact .inl ⟨n,av,U,ad,aj⟩
   ·exact .inr ⟨n,av,U,ad,aj⟩
  ·rintro (⟨n,av,U,ad,aj⟩|⟨n,av,U,ad,aj⟩)
   ·exact ⟨n,av,U,ad,.inl aj⟩
   ·exact ⟨n,av,U,ad,.inr aj⟩
 rw [e];simp only [en.iI,bq.with,bq.no,ao3];unfold ic;simp only;rw [Fk];unfold Jy Cg;by_cases hm:m<p.methods.length
 ·rw [i6 hm,i8,i8]
  cases t.hk.getD m false<;>cases t.runs.getD m false<;>cases qf p t (fun n=>yf p n m)<;>cases qf p t (fun n=>yg p n m)<;>rfl
 ·rw [M2 hm,aa',aa',getD_none ak,getD_none ak];rfl
def Cj (p:aU) (g:Int):bq:=⟨fun m=>decide (m<p.methods.length)&&decide (jY p m=g),fun m=>decide (m<p.methods.length)&&decide (jY p m=g)⟩
def uC (p:aU) (g:Int) (cP:List ae) (o:bq) (v:Nat):bq:=(o.kr (jH p g cP v)).hQ (se p (jH p g cP v))
theorem QU (p:aU) (g:Int) (cP:List ae) (m:Nat):∀ (vs:List Nat) (o:bq),(vs.foldl (uC p g cP) o).r m=(o.r m||vs.any fun v=>(se p (jH p g cP v)).contains (m:Int))
  | [],o=>by simp
  | v::vs,o=>by
    rw [ak9,QU p g cP m vs,ak'];simp [uC,bq.kr,bq.hQ,ap3]
theorem QV (p:aU) (g:Int) (cP:List ae) (m:Nat):∀ (vs:List Nat) (o:bq),(vs.foldl (uC p g cP) o).a m=(o.a m||vs.any fun v=>(jH p g cP v).contains (m:Int))
  | [],o=>by simp
  | v::vs,o=>by
    rw [ak9,QV p g cP m vs,ak'];simp [uC,bq.kr,bq.hQ,ap3]
theorem JI {p:aU} {gen:Int} {l:List ae} {v:Nat}:∀ (ms:List hh) (i:Nat) (k:Int),k∈pt gen l v i ms→(i:Int)≤k∧k<(i:Int)+(ms.length:Int)∧∀ m,ms[(k-i).toNat]? = some m→m.gen=gen
  | [],i,k,h=>by rw [pt] at h;cases h
  | m::r,i,k,h=>by
    rw [pt] at h;have go:k∈pt gen l v (i+1) r→(i:Int)≤k∧k<(i:Int)+((m::r).length:Int)∧∀ x,(m::r)[(k-i).toNat]? = some x→x.gen=gen:=fun h=>by
      obtain ⟨U,ad,aj⟩:=JI (p:=p) r (i+1) k h;refine ⟨by omega,by rw [i9];omega,fun x aa=>aj x ?_⟩;rw [show (k-(i:Int)).toNat=(k-((i+1:Nat):Int)).toNat+1 by omega] at aa;simpa using aa
    split at h
    · rename_i aw
      rcases ai1.1 h with rfl|h
      · refine ⟨ap8 _,by rw [i9];omega,fun x aa=>?_⟩
        rw [show ((i:Int)-(i:Int)).toNat=0 by omega] at aa;have:m=x:=by simpa using aa
        subst this;simp only [d6,f5] at aw;exact aw.1
      · exact go h
    · exact go h
theorem Ck {p:aU} {gen:Int} {l:List ae} {v:Nat} {k:Int} (h:k∈jH p gen l v):hG p k∧jY p k=gen:=by
 obtain ⟨U,ad,aj⟩:=JI (p:=p) p.methods 0 k h;refine ⟨⟨by omega,by omega⟩,?_⟩;have aE:k.toNat<p.methods.length:=by omega
 unfold jY;rw [d9,f8 aE,al1];refine aj _ ?_;rw [show (k-((0:Nat):Int)).toNat=k.toNat by omega];exact f8 aE
theorem QW (dj:Int→Int→Bool):∀ (k:Nat) (l out:List Int) (m:Int),m∈(mG dj k l out).1→m∈out∨m∈l
  | 0,_,_,_,h => .inl h
  | k+1,l,out,m,h=>by
    rw [mG] at h;split at h
    · exact .inl h
    · split at h
      · exact .inl h
      · rename_i x aa
        rcases QW dj k _ _ m h with h|h
        · rcases ab'.1 h with h|h
          · exact .inl h
          · rw [i7.1 h];exact .inr (al6 aa)
        · exact .inr (aj1.1 h).1
theorem QX {dj:Int→Int→Bool} {l:List Int} {m:Int} (h:m∈(chain dj l).1):m∈l:=by
 rcases QW dj _ l [] m h with h|h
 ·cases h
 ·exact h
theorem QY (dj:Int→Int→Bool):∀ (k:Nat) (l out:List Int) (m:Int),m∈lD dj k l out→m∈out∨m∈l
  | 0,_,_,_,h => .inl h
  | k+1,l,out,m,h=>by
    rw [lD] at h;split at h
    · exact .inl h
    · split at h
      · exact .inl h
      · rename_i x aa
        rcases QY dj k _ _ m h with h|h
        · rcases ab'.1 h with h|h
          · exact .inl h
          · rw [i7.1 h];exact .inr (al6 aa)
        · exact .inr (aj1.1 h).1
theorem QZ {dj:Int→Int→Bool} {l:List Int} {m:Int} (h:m∈nj dj l):m∈l:=by
 rcases QY dj _ (hO l) [] m h with h|h
 ·cases h
 ·unfold hO at h
  exact aA1.1 h
theorem Q0 {p:aU} {dj:Int→Int→Bool} {l:List Int} {x:wb} (h:qb p dj l=some x):∀ m,m∈x.pz∨m∈x.mH∨m∈x.oI∨m∈x.nk→m∈l:=by
 unfold qb at h;split at h
 ·cases h
 ·cases h
  rintro m (h|h|h|h)
  ·exact (aj1.1 (QX h)).1
  ·exact (aj1.1 (QZ h)).1
  ·exact (aj1.1 (QX h)).1
  ·exact (aj1.1 (QZ (List.mem_reverse.1 h))).1
theorem Fm (g:Int→Bool):∀ (l:List Int) (m:Int),m∈(jn g l).1→m∈l
  | [],_,h=>by rw [jn] at h;cases h
  | x::r,m,h=>by
    rw [jn] at h;split at h
    · rcases ai1.1 h with rfl|h
      · exact g8
      · exact f9 _ (Fm g r m h)
    · rw [i7.1 h];exact g8
theorem abH {p:aU} {l:List Int} {m:Int} (h:m∈se p l):m∈l:=by
 unfold se at h;split at h
 ·cases h
 ·rename_i x aa
  have hm:=Q0 aa;split at h
  ·exact hm m (.inl (Fm _ _ _ h))
  ·simp only [ab'] at h
   rcases h with (h|h)|h
   ·exact hm m (.inl (Fm _ _ _ h))
   ·exact hm m (.inr (.inl h))
   ·split at h
    ·cases h
    ·rcases ab'.1 h with h|h
     ·exact hm m (.inr (.inr (.inl (Fm _ _ _ h))))
     ·exact hm m (.inr (.inr (.inr h)))
theorem JJ (p:aU) {gen:Int} {l:List ae} {v:Nat}:∀ (ms:List hh) (i:Nat),(pt gen l v i ms).Pairwise (· < ·)
  | [],_=>aH5.nil
  | m::r,i=>by
    rw [pt];split
    · refine aA0.2 ⟨fun k ax=>?_,JJ p r (i+1)⟩
      have:=(JI (p:=p) r (i+1) k ax).1;omega
    · exact JJ p r (i+1)
theorem abI (p:aU) (gen:Int) (l:List ae) (v:Nat):(jH p gen l v).Nodup:=by
 refine (JJ p p.methods 0).imp fun h e=>?_
 omega
theorem abJ {p:aU} {n:Nat} (h:qe p (b7 p n).n=false):l2 p n=(qd p n).foldl (uC p (b7 p n).n (dG p (b7 p n).n)) bq.no:=by
 refine bq.ext' (fun m=>?_) (fun m=>?_)
 ·rw [QV]
  simp only [l2,bq.no,ak4];unfold yf;rw [h,f4 bc];by_cases hm:m<p.methods.length
  ·rw [i6 hm,i8]
  ·rw [M2 hm,aa',Eq.comm,al2]
   intro v _ aw;have:=(Ck (p:=p) (am'.1 aw)).1.2;omega
 ·rw [QU]
  simp only [l2,bq.no,ak4];unfold yg;rw [h,f4 bc];by_cases hm:m<p.methods.length
  ·rw [i6 hm,i8]
  ·rw [M2 hm,aa',Eq.comm,al2]
   intro v _ aw;have:=(Ck (p:=p) (abH (am'.1 aw))).1.2;omega
theorem abK {p:aU} {n:Nat} (h:qe p (b7 p n).n=true):l2 p n=Cj p (b7 p n).n:=by
 refine bq.ext' (fun m=>?_) (fun m=>?_)
 ·simp only [l2,Cj]
  unfold yf;rw [h,f7 C]
 ·simp only [l2,Cj]
  unfold yg;rw [h,f7 C]
theorem bq.Cl (t:bq) (a b:List Int):(t.hQ a).hQ b=t.hQ (a++b):=by
 refine bq.ext' (fun _=>rfl) (fun m=>?_);simp [bq.hQ,ap3]
theorem bq.abL (t:bq) (a b:List Int):(t.kr a).kr b=t.kr (a++b):=by
 refine bq.ext' (fun m=>?_) (fun _=>rfl);simp [bq.kr,ap3]
theorem bq.Fo (t:bq):t.hQ []=t:=bq.ext' (fun _=>rfl) (fun m=>by simp [bq.hQ])
theorem bq.abM (t:bq):t.kr []=t:=bq.ext' (fun m=>by simp [bq.kr]) (fun _=>rfl)
def q6 (g:Int→Nat):Nat→List Int→List Int
 | _,[]=>[]
 | b,k::r=>(b:Int)::q6 g (b+g k) r
def q7 (h:Int→Nat→List eW) (g:Int→Nat):Nat→List Int→List eW
 | _,[]=>[]
 | b,k::r=>h k b++q7 h g (b+g k) r
def ie (p:aU) (f:Nat) (n:Int):Nat:=(fU p f n).length
def qi (p:aU):Nat→Int→Nat→List eW
 | 0,n,_=>[⟨(b7 p n).op,(b7 p n).n,[]⟩]
 | f+1,n,b=>⟨(b7 p n).op,(b7 p n).n,q6 (ie p f) (b+1) (b7 p n).kids⟩::q7 (qi p f) (ie p f) (b+1) (b7 p n).kids
theorem Q1 {h:Int→Nat→List eW} {g:Int→Nat}:∀ (ks:List Int) (b:Nat),(∀ k∈ks,∀ b,(h k b).length=g k)→(q7 h g b ks).length=(ks.map g).sum
 | [],_,_=>rfl
 | k::r,b,ay=>by rw [q7,f0,ay k g8,Q1 r _ (fun k ax=>ay k (f9 _ ax)),ai2,List.sum_cons]
theorem JK {p:aU} {f:Nat} {n:Int} (h:fw p n=true):ie p (f+1) n=1+((b7 p n).kids.map (ie p f)).sum:=by
 unfold ie;rw [fU,f7 h,i9,List.length_flatMap,as9]
theorem Fp {p:aU}:∀ (f:Nat) (n:Int) (b:Nat),eY p f n=true→(qi p f n b).length=ie p f n
  | 0,n,b,h=>by rw [eY] at h;cases h
  | f+1,n,b,h=>by
    rw [eY,d6,ai4] at h;rw [qi,i9,Q1 _ _ (fun k ax b=>Fp f k b (h.2 k ax)),JK h.1,as9]
def tl (p:aU) (t:en) (m b:Nat):List eW:=if t.runs.getD m false then qi p 12 (p.methods.getD m default).node b else [⟨2,0,[]⟩]
def mJ (p:aU) (t:en):Nat→Nat→List hh×List eW×List Int→List hh×List eW×List Int
  | 0,_,a=>a
  | k+1,m,a=>if t.hk.getD m false then
      mJ p t k (m+1) (a.1++[⟨(p.methods.getD m default).kind,(p.methods.getD m default).gen,(p.methods.getD m default).fact,(a.2.1.length:Int)⟩],a.2.1++tl p t m a.2.1.length,a.2.2++[(m:Int)])
    else mJ p t k (m+1) a
def qj (p:aU) (t:en):List hh×List eW×List Int:=mJ p t p.methods.length 0 ([],[],[])
def Fq (p:aU) (t:en):aU:=⟨p.ch,p.bB,p.dX,(qj p t).1,(qj p t).2.1++qi p 12 p.main (qj p t).2.1.length,((qj p t).2.1.length:Int)⟩
def Q2 (p:aU) (t:en):List Int:=(qj p t).2.2
inductive pC where
 | node (op n:Int) (kids:List pC)
 deriving Inhabited
def JL (q:aU) (b:Nat) (l:List eW):Prop:=∀ (i:Nat) (x:eW),l[i]? = some x→q.nodes[b+i]? = some x
theorem JL.head {q:aU} {b:Nat} {x:eW} {r:List eW} (h:JL q b (x::r)):b7 q (b:Int)=x∧JL q (b+1) r:=by
 refine ⟨?_,fun i y ar=>?_⟩
 ·unfold b7
  rw [ai7,d9];have:=h 0 x C;rw [as8] at this;rw [this];rfl
 ·have:=h (i+1) y (by simpa using ar)
  rwa [show b+1+i=b+(i+1) by omega]
mutual
def tm:ae→Int
 | .mk _ _ _ _ _ ks=>1+qk ks
def qk:List ae→Int
 | []=>0
 | x::r=>tm x+qk r
end
mutual
def Cm:ae→Int
 | .mk _ _ _ _ _ ks=>q8 0 ks+1
def q8 (m:Int):List ae→Int
 | []=>m
 | x::r=>q8 (max m (Cm x)) r
end
mutual
theorem Q3:∀ f:ae,1≤tm f∧tm f≤(f.size:Int)
  | .mk _ _ p _ _ ks=>by
    have:=Fs ks;rw [tm,ae.size];push_cast;omega
theorem Fs:∀ l:List ae,0≤qk l∧qk l≤(ae.cM l:Int)
  | []=>by rw [qk];exact ⟨ap8 _,by simp⟩
  | x::r=>by
    have U:=Q3 x;have ad:=Fs r;rw [qk,ae.cM];push_cast;omega
end
theorem Q4:∀ (l:List ae) (m:Int),m≤q8 m l
 | [],m=>by rw [q8];exact ap8 _
 | x::r,m=>by rw [q8];have:=Q4 r (max m (Cm x));omega
theorem JM:∀ (l:List ae) (m d:Int),q8 m l≤d↔m≤d∧∀ x∈l,Cm x≤d
  | [],m,d=>by rw [q8];simp
  | x::r,m,d=>by
    rw [q8,JM r];constructor
    · rintro ⟨U,ad⟩
      refine ⟨by omega,fun y ar=>?_⟩;rcases ai1.1 ar with rfl|ar
      · omega
      · exact ad y ar
    · rintro ⟨U,ad⟩
      exact ⟨by have:=ad x g8;omega,fun y ar=>ad y (f9 _ ar)⟩
mutual
theorem JN:∀ (f:ae) (w:bo) (d:Nat) (k:Int),((eU w d k f).1=true↔tm f≤k∧Cm f≤d∧dU w f=true)∧((eU w d k f).1=true→(eU w d k f).2=k-tm f)
  | .mk o a p c n ks,w,d,k=>by
    have al:=Fs ks;have aA:=Q4 ks 0;rw [eU,tm,Cm,dU];split
    · rename_i h
      simp only [aj',f5] at h;refine ⟨⟨fun h=>nA,fun ⟨U,ad,_⟩=>by omega⟩,fun h=>nA⟩
    · rename_i h
      simp only [aj',f5,not_or] at h;have a8:=Q5 ks w (d-1) (k-1) ak;have e:q8 0 ks≤((d-1:Nat):Int)↔q8 0 ks+1≤(d:Int):=by omega
      split
      · rename_i av
        rw [av,i8];refine ⟨?_,fun h=>by rw [a8.2 h];omega⟩;rw [a8.1];constructor
        · rintro ⟨U,ad,aj⟩;exact ⟨by omega,e.1 ad,aj⟩
        · rintro ⟨U,ad,aj⟩;exact ⟨by omega,e.2 ad,aj⟩
      · rename_i av
        refine ⟨⟨fun h=>nA,fun ⟨_,_,h⟩=>?_⟩,fun h=>nA⟩;rw [d6] at h;exact absurd h.1 av
theorem Q5:∀ (l:List ae) (w:bo) (d:Nat) (k:Int),0≤k→((gH w d k l).1=true↔qk l≤k∧q8 0 l≤d∧hK w l=true)∧((gH w d k l).1=true→(gH w d k l).2=k-qk l)
  | [],w,d,k,ax=>by
    rw [gH,qk,q8,hK];exact ⟨⟨fun _=>⟨ax,by omega,rfl⟩,fun _=>rfl⟩,fun _=>by simp⟩
  | x::r,w,d,k,ax=>by
    have aa:=JN x w d k;have aB:=Q3 x;have aC:=Fs r;rw [gH,qk,hK,JM];split
    · rename_i h
      obtain ⟨U,ad,aj⟩:=aa.1.1 h;have he:=aa.2 h;rw [he];have a8:=Q5 r w d (k-tm x) ak;refine ⟨?_,fun h=>by rw [a8.2 h];omega⟩;rw [a8.1,aj,i8,JM];constructor
      · rintro ⟨fg,a2,a3⟩
        refine ⟨by omega,⟨a2.1,fun y ar=>?_⟩,a3⟩;rcases ai1.1 ar with rfl|ar
        · exact ad
        · exact a2.2 y ar
      · rintro ⟨fg,a2,a3⟩
        exact ⟨by omega,⟨a2.1,fun y ar=>a2.2 y (f9 _ ar)⟩,a3⟩
    · rename_i h
      refine ⟨⟨fun h=>nA,fun ⟨fg,a2,a3⟩=>?_⟩,fun h=>nA⟩;rw [d6] at a3;exact absurd (aa.1.2 ⟨by omega,a2.2 x g8,a3.1⟩) h
end
section
variable {J:ao→Prop} {P:Program} {Γ:cz} {N:Nat} {l:List Oper} {i:Nat} {rest:List Oper} {Q:b8→Env→ao→Prop} {env:Env} {s:ao} {o:Oper} {d:Nat}
theorem aS.lq (aP:bX P Γ) {t e:TypeId} {x y:Operand} {it aJ:bQ} {b n cap:Nat} {k:IntKind} {z:Int} (j:Nat) (ay:dO l env o) (aA:o.dst=some d) (a1:af' d N=true)
  (ai:o.op = .indexAddr t x y) (aN:Γ.get? t=some it) (bw:it.bN = .aF e) (bP:Γ.get? e=some aJ)
  (aa:aL (cF l env o) x=some (dv b n cap)) (ar:aL (cF l env o) y=some (.int k z)) (ft:z=(j:Int)) (aK:j<n)
  (h:aS J P Γ N l (i+1) rest Q ((d,.ptr b (j*aJ.size))::env) s):aS J P Γ N l i (o::rest) Q env s:=
 aS.calm ay aA a1 (fun _ _=>aX.lq aP ai aN bw bP aa ar ft aK) h
end
def Dv (g:List xu) (j:Nat):List Int:=ai0 j 0++HH j (g.drop j)
def n2 (w:bo) (L:List bG):Prop:=L.length<4096∧lS w L
theorem n2.at {w:bo} {L:List bG} (h:n2 w L) {x:bG} (aa:x∈L):x.1.c7=true∧x.1.path.length≤2 ∧ -1000000000≤x.1.n∧x.1.n≤1000000000∧(x.1.op=2→0≤x.1.cls∧x.1.cls<3+(w.ps.length:Int)):=by
 obtain ⟨av,aE⟩:=h.2 x aa;refine ⟨aE,(D3 av aE).1,?_⟩;simp only [fr,aE,ak2,d6,f5] at av;have ad:=av.2.2.2.2.2.2.2;unfold lr at ad;by_cases aj:x.1.op=2
 ·rw [f7 aj] at ad
  simp only [d6,f5] at ad;exact ⟨by omega,by omega,fun _=>ad.2⟩
 ·rw [f4 aj] at ad
  simp only [d6,f5] at ad;exact ⟨by omega,by omega,fun h=>absurd h aj⟩
theorem n2.on {w:bo} {L:List bG} (h:n2 w L) (arg:Int) (path:List Int):n2 w (eC L arg path):=
 ⟨Nat.lt_of_le_of_lt (al8 _ _) h.1,fun x aa=>h.2 x (aj1.1 aa).1⟩
theorem abN (L:List bG) (arg:Int) (path:List Int):(eC L arg path).length≤L.length:=al8 _ _
theorem abO {L:List bG} {j:Nat} {x:bG} (h:L[j]? = some x) (q:bG→Bool):(L.take (j+1)).filter q=(L.take j).filter q++(if q x then [x] else []):=by
 rw [fD h,List.filter_append];congr 1;by_cases bf:q x=true
 ·rw [f7 bf,an1,f7 bf];rfl
 ·rw [f4 bf,an1,f4 bf];rfl
def sf (L:List bG):ag := .aF 7 (L.map et) .a7
def ql (w:bo) (L:List bG):List ag:=[fk w.ps,br w.owner,sf L]
def mK (w:bo) (L:List bG):ag := .agg (ql w L)
theorem q9 (x:bG):et x = .agg [.int .i64 x.1.op,.int .i64 x.1.arg,.aF 1 (x.1.path.map fun i => .int .i64 i) .a7,.int .i64 x.1.cls,.int .i64 x.1.n,.aF 6 (x.1.kids.map ae.bh) .a7,.bool x.2]:=rfl
theorem Q6 (a b:List Int) (bp:a.length<bK) (dH:b.length<bK):aY d4 305 [br a,br b] (.bool (sU a b)):=by
 have aq:=bx;refine aY.bj ah Tryz.func305 C C fun s I=>?_
 unfold br sU;by_cases h:b.length≤a.length
 ·have U:=D4 (a.take b.length) b wE dH
  rw [i6 h,i8];unfold br at U;rw [at2] at U;have e:(b.map ba).length=b.length:=f6 _;rw [← e] at U;refine cX ?_;refine ab.fM 10 C fG ?_;refine fB ?_;refine ab.slice ah 0 (b.map ba).length C C C C C C C C (.inr C) (.inl ⟨rfl,rfl⟩) (.inr ⟨_,_,rfl,rfl⟩) (.inl ⟨rfl,rfl⟩) (g9 _) fG ?_;rw [aq9];refine gw ?_;exact Fin.cZ I C (aR.of_eq (by rw [e]))
 ·rw [M2 h,aa']
  refine cX ?_;refine ab.eP 10 C fG ?_;refine bd ?_;exact b2 I
theorem Q7 (fv:ag) (q:bG→Bool) (xs:List bG) (aE:xs.length<bK) (h:∀ x∈xs,cY d4 fv [et x] (.bool (q x))):aY d4 306 [.aF 7 (xs.map et) .a7,fv] (.bool (xs.any q)):=by
 have aq:=bx;refine aY.bj ah Tryz.func306 C C fun s I=>?_
 refine gp ?_;refine af.cc [1,7,8] C I (σ:=Nat) (fun j=>[(9,.int .i64 (j:Int))]) (fun _=>[]) (fun j=>j≤xs.length∧xs.any q=(xs.drop j).any q) (fun j=>xs.length-j) 0 ⟨g9 _,rfl⟩ (cy C) a' ?_;rintro j ⟨aK,aG⟩ I
 try simp only at aK aG I ⊢
 refine cl ?_;refine af.cond C (fun au=>?_) (fun aV=>?_);rotate_left
 ·have aV:j=xs.length:=by simp at aV;omega
  rw [fe ak,ax9] at aG;rw [aG];refine fb ?_;exact b2 I
 have au:j<xs.length:=by simpa using au
 obtain ⟨x,aa,bY⟩:=b' (f:=et) au;have aD:=h x (d8 aa);rw [drop_cons aa,ak'] at aG
 try rw [q9] at aD bY
 try unfold ba at aD bY
 cases bf:q x with
 | true=>
  rw [bf] at aG aD;rw [aG];refine ej ?_;exact b2 I
 | false=>
  rw [bf] at aG aD;refine ej ?_;exact bA.mk (j+1) I ⟨au,by rw [aG];rfl⟩ ct a' mq
theorem JO (fv:ag) (q:Int→Bool) (xs:List Int) (aE:xs.length<bK) (h:∀ x∈xs,cY d4 fv [ba x] (.bool (q x))):aY d4 69 [.aF 1 (xs.map ba) .a7,fv] (.bool (xs.any q)):=by
 have aq:=bx;refine aY.bj ah Tryz.func69 C C fun s I=>?_
 refine gp ?_;refine af.cc [1,7,8] C I (σ:=Nat) (fun j=>[(9,.int .i64 (j:Int))]) (fun _=>[]) (fun j=>j≤xs.length∧xs.any q=(xs.drop j).any q) (fun j=>xs.length-j) 0 ⟨g9 _,rfl⟩ (cy C) a' ?_;rintro j ⟨aK,aG⟩ I
 try simp only at aK aG I ⊢
 refine cl ?_;refine af.cond C (fun au=>?_) (fun aV=>?_);rotate_left
 ·have aV:j=xs.length:=by simp at aV;omega
  rw [fe ak,ax9] at aG;rw [aG];refine fb ?_;exact b2 I
 have au:j<xs.length:=by simpa using au
 obtain ⟨x,aa,bY⟩:=b' (f:=ba) au;have aD:=h x (d8 aa);rw [drop_cons aa,ak'] at aG
 try rw [ba] at aD bY
 try unfold ba at aD bY
 cases bf:q x with
 | true=>
  rw [bf] at aG aD;rw [aG];refine c1 ?_;exact b2 I
 | false=>
  rw [bf] at aG aD;refine c1 ?_;exact bA.mk (j+1) I ⟨au,by rw [aG];rfl⟩ ct a' mq
theorem abP (fv:ag) (q:ae→Bool) (xs:List ae) (aE:xs.length<bK) (h:∀ x∈xs,cY d4 fv [ae.bh x] (.bool (q x))):aY d4 119 [.aF 6 (xs.map ae.bh) .a7,fv] (.bool (xs.any q)):=by
 have aq:=bx;refine aY.bj ah Tryz.func119 C C fun s I=>?_
 refine gp ?_;refine af.cc [1,7,8] C I (σ:=Nat) (fun j=>[(9,.int .i64 (j:Int))]) (fun _=>[]) (fun j=>j≤xs.length∧xs.any q=(xs.drop j).any q) (fun j=>xs.length-j) 0 ⟨g9 _,rfl⟩ (cy C) a' ?_;rintro j ⟨aK,aG⟩ I
 try simp only at aK aG I ⊢
 refine cl ?_;refine af.cond C (fun au=>?_) (fun aV=>?_);rotate_left
 ·have aV:j=xs.length:=by simp at aV;omega
  rw [fe ak,ax9] at aG;rw [aG];refine fb ?_;exact b2 I
 have au:j<xs.length:=by simpa using au
 obtain ⟨x,aa,bY⟩:=b' (f:=ae.bh) au;have aD:=h x (d8 aa);rw [drop_cons aa,ak'] at aG
 try rw [ae.bJ] at aD bY
 try unfold ae.cells at aD bY
 cases bf:q x with
 | true=>
  rw [bf] at aG aD;rw [aG];refine ej ?_;exact b2 I
 | false=>
  rw [bf] at aG aD;refine ej ?_;exact bA.mk (j+1) I ⟨au,by rw [aG];rfl⟩ ct a' mq
theorem JP {w:bo} {L:List bG} (h:n2 w L) {x:bG} (aa:x∈L):x.1.path.length<bK:=by
 have:=(h.at aa).2.1;have aq:=bx;omega
theorem abQ (arg:Int) (path:List Int) (x:bG) (aa:x.1.path.length<bK) (aB:path.length<bK):cY d4 (.func 307 [] [.bl [.int .i64 arg] 0,.bl [br path] 0]) [et x] (.bool (!x.2&&nS arg path x)):=by
 have aq:=bx;refine cY.ey (first:=[]) (cap:=[.bl [.int .i64 arg] 0,.bl [br path] 0]) ?_;refine aY.bj ah Tryz.func307 C C fun s I=>?_
 have hu:=Q6 x.1.path path aa aB;have he:nS arg path x=(decide (x.1.arg=arg)&&sU x.1.path path):=rfl;rw [q9,he];unfold br at *;cases x.2 with
 | true=>
  refine nM ?_;exact b2 I
 | false=>
  rw [an4,i8];refine cX ?_;by_cases h:x.1.arg=arg
  ·rw [i6 h,i8]
   refine ab.fM 15 C fG ?_;refine gw ?_;exact b2 I
  ·rw [M2 h,aa']
   refine ab.eP 15 C fG ?_;refine bd ?_;exact b2 I
theorem Q8 (w:bo) (L:List bG) (arg:Int) (path:List Int) (bE:n2 w L) (aB:path.length<bK):aY d4 249 [mK w L,.int .i64 arg,br path] (.bool (hM L arg path)):=by
 have aq:=bx;refine aY.bj ah Tryz.func249 C C fun s I=>?_
 have al:=Q7 (.func 307 [] [.bl [.int .i64 arg] 0,.bl [br path] 0]) (fun x => !x.2&&nS arg path x) L (by have:=bE.1;omega) (fun x aa=>abQ arg path x (JP bE aa) aB);unfold mK ql sf hM br at *;refine gw ?_;exact b2 I
theorem Q9 (path:List Int) (bD:Int) (aB:path.length<8):aY d4 250 [br path,.int .i64 bD] (br (path++[bD])):=by
 have aq:=bx;refine aY.bj ah Tryz.func250 C C fun s I=>?_
 have aw:=vC (path.map ba) .a7;unfold br;rw [t8];refine gw ?_;refine ab.y9 ah rfl rfl rfl rfl rfl rfl rfl dB rfl rfl rfl (.inr rfl) (.inr rfl) rfl (by intro y ar;rw [i7.1 ar];rfl) (by simp only [f6,i9,ai9];show _*8≤_;omega) (by simp only [f6,i9,ai9];omega) (.inr C) ?_;refine eB ?_;exact b2 I
theorem abR (x:bG):cY d4 (.func 309 [] []) [et x] (.bool (t' x)):=by
 have aq:=bx;refine cY.ey (first:=[]) (cap:=[]) ?_;refine aY.bj ah Tryz.func309 C C fun s I=>?_
 rw [q9]
 repeat' (first|(with_reducible first|apply af.seq|apply cg|apply af.ret)|refine e7 C ?_|refine af.cv ?_|refine ab.nil ?_|refine cq C ?_|refine ab.skip C C C ?_|(fail_if_success refine ab.same true C ?_);(fail_if_success refine ab.same false C ?_);refine ab.m3 C C (fun h=>?_) (fun h=>?_))
 all_goals (refine Fin.cZ I C (aR.of_eq (ak5 ag.bool ?_));clear I;simp only [t'] at *;grind)
theorem abS {w:bo} {f:ae} (h:fr w f=true):f.path.length≤2:=by
 unfold fr at h;simp only [d6,f5] at h;have h:=h.2.2.2;split at h
 ·simp only [d6,f5] at h;exact h.2.2.1
 ·simp only [d6,f5] at h;omega
mutual
theorem Q' {w:bo}:∀ f:ae,dU w f=true→(f.size:Int)≤3*tm f
  | .mk o a p c n ks,h=>by
    rw [dU,d6] at h;have U:p.length≤2:=abS h.1;have ad:=Ra ks h.2;rw [ae.size,tm];push_cast;omega
theorem Ra {w:bo}:∀ l:List ae,hK w l=true→(ae.cM l:Int)≤3*qk l
  | [],_=>by rw [ae.cM,qk];decide
  | x::r,h=>by
    rw [hK,d6] at h;have U:=Q' x h.1;have ad:=Ra r h.2;rw [ae.cM,qk];push_cast;omega
end
theorem uD {w:bo} {f:ae} (h:hi w f=true):f.size≤72:=by
 unfold hi at h;obtain ⟨U,-,ad⟩:=(JN f w 12 24).1.1 h;have:=Q' f ad;omega
theorem zW {w:bo} {f:ae} (h:hi w f=true):dU w f=true:=by
 unfold hi at h;exact ((JN f w 12 24).1.1 h).2.2
theorem abT (f:ae):f.not.size=1+f.size:=by
 unfold ae.not;rw [ae.size,ae.cM,ae.cM,ai9];omega
theorem abU (f g:ae):(f.and g).size=1+f.size+g.size:=by
 unfold ae.and;rw [ae.size,ae.cM,ae.cM,ae.cM,ai9];omega
theorem abV (f:ae):aY d4 243 [f.bh] (f.not.bh):=by
 have aq:=bx;refine aY.bj ah Tryz.func243 C C fun s I=>?_
 unfold ae.not;rw [ae.bJ,ae.bJ];simp only [ae.cells,ae.op,ae.arg,ae.path,ae.cls,ae.n,ae.kids,ai2,aj5];rw [ae.bJ];unfold ae.cells
 repeat (first|(refine sO I ?_;clear I;intro I)|refine ab.c3 ah I rfl rfl rfl rfl rfl rfl rfl (fun cu I=>?_))
 exact Fin.cZ I (iS C C (bm.get aO I) C) (aR.agg (.cons aH (.cons aH (.cons aR.empty (.cons aH (.cons aH (.one aR.a7)))))))
theorem abW (f g:ae):aY d4 242 [f.bh,g.bh] ((f.and g).bh):=by
 have aq:=bx;refine aY.bj ah Tryz.func242 C C fun s I=>?_
 unfold ae.and;rw [ae.bJ,ae.bJ,ae.bJ];simp only [ae.cells,ae.op,ae.arg,ae.path,ae.cls,ae.n,ae.kids,ai2,aj5];rw [ae.bJ,ae.bJ];unfold ae.cells
 repeat (first|(refine sO I ?_;clear I;intro I)|refine ab.c3 ah I rfl rfl rfl rfl rfl rfl rfl (fun cu I=>?_))
 exact Fin.cZ I (iS C C (bm.get aO I) C) (aR.agg (.cons aH (.cons aH (.cons aR.empty (.cons aH (.cons aH (.one aR.a7)))))))
theorem abX {w:bo} {f g:ae} (aZ:dU w f=true) (ay:dU w g=true):dU w (f.and g.not)=true:=by
 unfold ae.and ae.not;rw [dU,hK,hK,hK,aZ,dU,hK,hK,ay];rfl
theorem abY (w:bo) (hw:fJ w) (f g:ae) (aZ:hi w f=true) (ay:hi w g=true):aY d4 186 [jT w,f.bh,g.bh] (.bool (j9 w f g)):=by
 have aq:=bx;refine aY.bj ah Tryz.func186 C C fun s I=>?_
 have s1:=uD aZ;have s2:=uD ay;have QB:=abT g;have ahS:=abU f g.not;have U:=abV g;have ad:=abW f g.not;have aj:=Pm w hw (f.and g.not) ak (abX (zW aZ) (zW ay));rw [ae.bJ] at U ad aj ⊢;rw [ae.bJ g.not] at U ad;rw [ae.bJ (f.and g.not)] at ad;rw [ae.bJ g];unfold j9;generalize (f.and g.not).cells=cx at *;generalize g.not.cells=cE at *;unfold ae.cells jT gf at *;refine c1 ?_;exact b2 I
def yi (w:bo) (f g:ae):ag := .bW [.bool (hi w f&&(hi w g&&j9 w f g)),.int .i64 (if hi w f&&hi w g then 0 else 2)]
theorem JQ (w:bo) (hw:fJ w) (f g:ae) (aZ:f.size<bK) (ay:g.size<bK):aY d4 121 [jD w,f.bh,g.bh] (yi w f g):=by
 have aq:=bx;refine aY.bj ah Tryz.func121 C C fun s I=>?_
 have U:=H' w hw [f,g] ez (by intro x aa;rcases ai1.1 aa with rfl|aa;exact aZ;rw [i7] at aa;subst aa;exact ay);rw [ai2,ai2,aj5,ae.bJ,ae.bJ] at U;rw [aq6,aq6,ax',as0] at U;unfold yi;cases j5:hi w f with
 | false=>
  rw [j5] at U;rw [ae.bJ,ae.bJ];unfold ae.cells jD fL fk br at *;unfold jT gf at *;refine c1 ?_;exact b2 I
 | true=>
  cases ep:hi w g with
  | false=>
   rw [j5,ep] at U;rw [ae.bJ,ae.bJ];unfold ae.cells jD fL fk br at *;unfold jT gf at *;refine c1 ?_;exact b2 I
  | true=>
   rw [j5,ep] at U;have ad:=abY w hw f g j5 ep;rw [ae.bJ,ae.bJ] at ad ⊢;unfold ae.cells jD fL fk br at *;unfold jT gf at *;refine c1 ?_;exact b2 I
theorem Rb (v c:Nat):(((v >>> c &&& 1:Nat):Int)==1)=v.testBit c:=by
 rw [show (((v >>> c &&& 1:Nat):Int)==1)=decide (((v >>> c &&& 1:Nat):Int)=1) from rfl,Nat.and_one_is_mod,Nat.testBit_eq_decide_div_mod_eq,au2];apply decide_eq_decide.2;omega
theorem abZ (fv:ag) (Go:List ae→a6→Prop) (fu:a6→Prop) (fC:ag→a6→Prop) (dR:∀ x rem K,Go (x::rem) K→df d4 fv [x.bh] K (Bz Go fu fC rem)) :
  ∀ (n:Nat) (f:ae),f.size≤n→n<bK→∀ (rest:List ae) (K:a6),Go (kF f++rest) K→bs d4 260 [f.bh,fv] K (Bz Go fu fC rest):=by
 have aq:=bx;intro n
 induction n with
 | zero=>intro x h;have:=x.size_eq;omega
 | succ n a8=>
  intro f av nH rest K ep;have o6:=f.size_eq;have fs:=ae.vy f.kids;rw [IJ] at ep;refine bs.bj ah Tryz.func260 C C fun s I=>?_
  cases aE:f.c7 with
  | true=>
   rw [aE,f7 C] at ep;have aj:=dR f rest K ep;rw [ae.bJ] at aj ⊢;unfold ae.cells at aj ⊢;have cG:f.op=2∨f.op=3∨f.op=4:=by unfold ae.c7 at aE;simp at aE;omega
   rcases cG with h|h|h
   all_goals
    rw [h] at aj ⊢;refine bd ?_;refine ab.e0 C C C C C C aj I (az.all _) ?_ ?_
    ·rintro x aM (⟨⟨⟩,ay⟩|⟨⟨⟩,aA⟩|⟨_,⟨⟩,_⟩) I
     all_goals rw [d7] at I ⊢
     ·refine bd ?_
      exact Fin.bz I C aH (az.all _) (.inl ⟨rfl,ay⟩)
     ·refine bd ?_
      exact Fin.bz I C aH (az.all _) (.inr (.inl ⟨rfl,aA⟩))
    ·rintro x aM (⟨h,_⟩|⟨h,_⟩|⟨v,⟨⟩,aB⟩) I
     ·cases h
     ·cases h
     rw [d7] at I ⊢;exact Fin.e1 I aH (az.all _) (.inr (.inr ⟨_,rfl,aB⟩))
  | false=>
   rw [aE,f4 bc] at ep;have cG:f.op≠2∧f.op≠3∧f.op≠4:=by unfold ae.c7 at aE;simp at aE;omega
   rw [ae.bJ];unfold ae.cells;refine cX ?_;refine ab.eP 10 C ez ?_;refine fB ?_;refine ab.eP 15 C ez ?_;refine jQ ?_;refine af.cond C (fun h=>by simp at h;omega) (fun _=>?_);refine bd ?_;refine af.cc [1,24,25] C I (σ:=Nat×a6) (fun q=>[(26,.int .i64 (q.1:Int))]) (fun q=>q.2) (fun q=>q.1≤f.kids.length∧Go (oE (f.kids.drop q.1)++rest) q.2) (fun q=>f.kids.length-q.1) (0,K) ⟨g9 _,ep⟩ (cy C) (az.all _) ?_;rintro ⟨j,ib⟩ ⟨aK,ep⟩ I
   try simp only at aK ep I ⊢
   refine cl ?_;refine af.cond C (fun au=>?_) (fun aV=>?_);rotate_left
   ·have aV:j=f.kids.length:=by simp at aV;omega
    rw [fe ak,oE,d0] at ep;refine fb ?_;exact Fin.bz I C aH (az.all _) (.inl ⟨rfl,ep⟩)
   have au:j<f.kids.length:=by simpa using au
   obtain ⟨x,aa,bY⟩:=b' (f:=ae.bh) au;have fi:=ae.hg (d8 aa);rw [drop_cons aa,oE,aj0] at ep;have i1:=a8 x ak ak _ ib ep;rw [ae.bJ] at i1 bY;unfold ae.cells at i1 bY;refine ej ?_;refine ab.bL C C C C C i1 I (az.all _) ?_ ?_
   ·rintro y aM (⟨⟨⟩,ay⟩|⟨⟨⟩,aA⟩|⟨_,⟨⟩,_⟩) I
    all_goals rw [d7] at I ⊢
    ·refine bd ?_
     exact bA.mk (j+1,aM) I ⟨au,ay⟩ ct (az.all _) kG
    ·refine bd ?_
     exact Fin.bz I C aH (az.all _) (.inr (.inl ⟨rfl,aA⟩))
   ·rintro y aM (⟨h,_⟩|⟨h,_⟩|⟨v,⟨⟩,aB⟩) I
    ·cases h
    ·cases h
    rw [d7] at I ⊢;exact Fin.e1 I aH (az.all _) (.inr (.inr ⟨_,rfl,aB⟩))
theorem ab0 (f:ae) (aZ:f.size<bK):vu d4 259 [] [.bl f.cells 0] [] ae.bh (kF f):=by
 intro l Go fu fC nP K bC;have hw:=abZ (ml l) Go fu fC (fun x rem K ay=>nP x rem K ay) f.size f (t7 _) aZ [] K (by rw [d7];exact bC);rw [ae.bJ] at hw;refine bs.bj ah Tryz.func259 C C fun s I=>?_
 rw [d0] at I ⊢;unfold ae.cells at *;refine iR ?_;refine ab.bL C C C C C hw I (az.all _) ?_ ?_
 ·rintro x aM (⟨⟨⟩,h⟩|⟨⟨⟩,h⟩|⟨_,⟨⟩,_⟩) I
  all_goals rw [d7] at I ⊢
  ·refine jQ ?_
   exact Fin.bz I C aH (az.all _) (.inl ⟨rfl,.inl h⟩)
  ·refine jQ ?_
   exact Fin.bz I C aH (az.all _) (.inl ⟨rfl,.inr h⟩)
 ·rintro x aM (⟨h,_⟩|⟨h,_⟩|⟨v,⟨⟩,h⟩) I
  ·cases h
  ·cases h
  rw [d7] at I ⊢;exact Fin.e1 I aH (az.all _) (.inr ⟨_,rfl,h⟩)
theorem ab1 (f:ae):aY d4 198 [f.bh] (.func 259 [] [.bl f.cells 0]):=by
 have aq:=bx;refine aY.bj ah Tryz.func198 C C fun s I=>?_
 rw [ae.bJ];unfold ae.cells;refine nM ?_;exact b2 I
section
variable {P:Program} {Γ:cz} {N:Nat} {ops:Array Oper} {Q:b8→Env→ao→Prop} {env:Env} {s:ao} {l:List Oper} {o:Oper} {d:Nat} {L R:a6}
def JR (s:ao) (R:a6) (e:TypeId) (sz n:Nat) (xs:List ag) (r:ag) (an:ao):Prop:=
 ∃ aW b0 cs',r=dv aW n b0∧an=aT s ((.own aW,.box e cs')::R)∧Ok s ((.own aW,.box e cs')::R)∧cs'.length=b0*sz∧n≤b0∧cs'.take (n*sz)=xs
theorem Rc (z:Array Value) (k:Nat):(Builtin.zeroCells z k).toList.length=k*z.size:=by
 rw [ai8];simp [Builtin.zeroCells]
theorem Re (aP:bX P Γ) {w:World} {p:bV} {S:ao} (ca:dn w p S) {t bR e ty:TypeId} {it cT aJ:bQ} {b9 sz:Nat} {olds:List Value} {xs ys:List ag} {dW:bM} {base:Option Addr} {n cap:Nat} {rI:Value}
  (aN:Γ.get? t=some it) (bw:it.bN = .aF e) (dp:Γ.get? bR=some cT) (ed:∀ k,cT.bN ≠ .int k) (bP:Γ.get? e=some aJ) (U:aJ.size=sz) (eE:aj4 aJ.zero.cells.size aJ.size=true)
  (aC:b4 w p olds xs) (av:n*sz=xs.length) (tJ:(Builtin.firstCells sz n (.slice base n cap)).run P w.drew = .ok olds.toArray w.drew) (ar:Rel w p rI (.aF b9 [.agg ys] dW)) (dN:b9=sz) (hs:ys.length=sz)
  (au:cap<n+1) (aq:(n+1)*aJ.bytes≤140737488355328) (eR:n+1≤9223372036854775807) :
  ∃ aW b0 cs' w',(Builtin.append_ #[t,bR] ty #[.slice base n cap,rI]).run P w = .ok (.slice (some ⟨aW,0,none⟩) (n+1) b0) w'∧S aW=none∧c2 w p w' p∧Kept S (S.set aW (.box e cs')) w p w' p∧dn w' p (S.set aW (.box e cs')) ∧
   cs'.length=b0*sz∧n+1≤b0∧cs'.take ((n+1)*sz)=xs++ys:=by
 obtain ⟨info,d,g1,g2,g3,-⟩:=aP.parts aN;obtain ⟨nB,db,dF,c8,du,-⟩:=aP.parts dp;obtain ⟨jv,j0,ck,cL,ev,ee,lj,mg⟩:=aP.parts bP;have aA:d = .slice e:=by rw [bw] at g3;cases d<;>simp [ec] at g3;rw [g3]
 subst aA;have cH:∀ k,db ≠ .int k:=fun k e'=>by subst e';exact ed k du.symm
 obtain ⟨us,hq,oT,jw,jd,sA,sB,sC⟩:=pU ar (.inr dN);subst dN;have uE:b4 w p (flat us) ys:=by
  cases hq with
  | cons u _ wU _ hu xn=>
  cases xn;cases hu with
  | agg c _ aw=>simpa [flat,Value.cells] using aw
 have mV:=uE.length;have er:=growslice_fits (need:=n+1) (old:=cap) (bytes:=aJ.bytes) au aq;have cI:=AS (ty:=ty) w g2 c8 cH ck mg (base:=base) (sLen:=n) (sCap:=cap) (m:=1) (olds:=olds) (news:=flat us) (jw P)
  (by rw [ee,U];exact tJ) (by rw [ee,U];exact jd P w.drew (fun _ _ _=>rfl)) au ak (by rw [lj];exact er)
 have oe:n+1≤grownCap w (n+1) cap e:=by simp [grownCap,Question.cut]
 have gq:olds.length=n*b9:=by rw [aC.length,av]
 have pQ:=ai3 eE;generalize tK:(Builtin.zeroCells aJ.zero.cells (grownCap w (n+1) cap e-(n+1))).toList=aO at cI;have oU:aO.length=(grownCap w (n+1) cap e-(n+1))*b9:=by
  rw [← tK,Rc,pQ,U]
 generalize grownCap w (n+1) cap e=G at cI oe oU;have xo:=yK ca
 obtain ⟨al,hle,ax,ln⟩:=sx xo (.cells (olds++flat us++aO).toArray e (0,0)) (.box e (xs++ys++aO.map fun _ => .any)) (fun w' jc aD gm=>⟨_,jc,by
  refine b4.append (b4.append (gm _ _ (show b4 w.drew p olds xs from aC.mono lb)) (gm _ _ (uE.mono lb))) (b4.Be aO),fun o aB=>absurd (ca.lt _ _ aB) (by show ¬ w.heap.size<w.heap.size;omega)⟩)
 rw [show w.drew.heap.size=w.heap.size from rfl] at al ax ln;have hm:(n+1)*b9=n*b9+b9:=aB2 n b9;refine ⟨w.heap.size,G,xs++ys++aO.map (fun _=>ag.any),_,cI,al,lb.trans hle,(wK (w:=w) (p:=p)).trans (lb (w:=w) (p:=p)).size ax,ln,?_,oe,?_⟩
 ·simp only [f0,f6,oU]
  rw [← av,hs,← hm,← ao2];congr 1;omega
 ·rw [al5 ez,am4 ez]
theorem aX.yj (aP:bX P Γ) (I:Ok s L) {t bR e:TypeId} {x y:Operand} {it cT aJ:bQ} {eI b9 sz:Nat} {ys:List ag} {dW:bM}
    (ai:o.op = .call { callee := .builtin .append,args := #[x,y],argTypes := #[t,bR] }) (aN:Γ.get? t=some it) (bw:it.bN = .aF e) (dp:Γ.get? bR=some cT) (ed:∀ k,cT.bN ≠ .int k)
    (bP:Γ.get? e=some aJ) (U:aJ.size=sz) (eE:aj4 aJ.zero.cells.size aJ.size=true) (aa:aL env x=some (.aF eI [] .nil)) (ar:aL env y=some (.aF b9 [.agg ys] dW)) (dN:b9=sz) (hs:ys.length=sz) (aq:1*aJ.bytes≤140737488355328)
    {X:ag→ao→Prop}:aX P N o env (aT s L) (fun r an=>JR s L e sz 1 ys r an) X:=by
  refine aX.jZ hZ fun ro B a w p aI=>?_
  have fz:=aI.aL aa;have eH:=aI.aL ar;have ef:=fun val w'=>vt (P:=P) (a:=a) (val:=val) (w:=w) (w':=w') ai
  generalize dM:a.eval x=dy at fz ef;generalize fj:a.eval y=fX at eH ef;have xp:dy = .slice none 0 0:=by
    cases fz with
    | iA=>rfl
    | jo a _ _ h=>rcases h with h|h<;>cases h
    | aF g off n cap _ vs _ _ av=>exact absurd C av
  subst xp
  obtain ⟨aW,b0,cs',w',eD,fh,gv,jx,mW,mX,ov,ow⟩:=Re (ty:=o.type) aP aI.wf (base:=none) (n:=0) (cap:=0) (olds:=[]) (xs:=[]) aN bw dp ed bP U eE .nil bc (by
    have:=run_firstCells_none (P:=P) w.drew sz 0 0 0
    simpa using this) eH dN hs ak (by simpa using aq) ak
  rw [aj8] at eD ov ow;exact ⟨_,w',_,p,_,ef _ _ eD,gv,jx,mW,⟨aW,b0,cs',rfl,rfl,⟨fh,I⟩,mX,ov,by simpa using ow⟩,.ho _⟩
theorem aX.uF (aP:bX P Γ) (I:Ok s L) {t bR e:TypeId} {x y:Operand} {it cT aJ:bQ} {b n cap b9 sz:Nat} {cs ys:List ag} {dW:bM}
    (ai:o.op = .call { callee := .builtin .append,args := #[x,y],argTypes := #[t,bR] }) (aN:Γ.get? t=some it) (bw:it.bN = .aF e) (dp:Γ.get? bR=some cT) (ed:∀ k,cT.bN ≠ .int k)
    (bP:Γ.get? e=some aJ) (U:aJ.size=sz) (eE:aj4 aJ.zero.cells.size aJ.size=true) (aa:aL env x=some (dv b n cap)) (al:bm L (.own b) (.box e cs) R) (cm:cs.length=cap*sz) (av:n≤cap)
    (ar:aL env y=some (.aF b9 [.agg ys] dW)) (dN:b9=sz) (hs:ys.length=sz) (ew:ys.all eZ=true) (aq:(n+1)*aJ.bytes≤140737488355328) (eR:n+1≤9223372036854775807)
    {X:ag→ao→Prop}:aX P N o env (aT s L) (fun r an=>JR s R e sz (n+1) (cs.take (n*sz)++ys) r an) X:=by
  obtain ⟨bT,bI,eh⟩:=al.perm I;refine aX.jZ hZ fun ro B a w p aI=>?_
  have fz:=aI.aL aa;have eH:=aI.aL ar;have ef:=fun val w'=>vt (P:=P) (a:=a) (val:=val) (w:=w) (w':=w') ai
  generalize dM:a.eval x=dy at fz ef;generalize fj:a.eval y=fX at eH ef;cases fz;obtain ⟨vs,cx,cE,dz⟩:=aI.wf.obj _ _ (al.get I);have gm:vs.toList.length=cap*sz:=by rw [cE.length,cm]
  have r3:n*sz≤cap*sz:=ao8 _ av;have iG:=cE.take (n*sz);have tN:∀ w':World,(∀ j,w'.cell? ⟨b,j,none⟩=w.cell? ⟨b,j,none⟩)→(Builtin.firstCells sz n (.slice (some ⟨b,0,none⟩) n cap)).run P w' = .ok (vs.toList.take (n*sz)).toArray w':=by
    intro w' jc;refine run_firstCells_some (P:=P) w' sz n ⟨b,0,none⟩ n cap (vs.toList.take (n*sz)) (by rw [ah',gm];omega) (fun j u hu=>?_);rw [lf,aj8,jc,jN cx];rw [al'] at hu;split at hu
    · simpa using hu
    · cases hu
  by_cases au:cap<n+1
  · obtain ⟨aW,b0,cs',w',eD,fh,gv,jx,mW,mX,ov,ow⟩:=Re (ty:=o.type) aP aI.wf (base:=some ⟨b,0,none⟩) (n:=n) (cap:=cap) (olds:=vs.toList.take (n*sz)) (xs:=cs.take (n*sz)) aN bw dp ed bP U eE iG yE
      (tN w.drew fun _=>rfl) eH dN hs au aq eR
    have gC:ao.Sub ((aT s R).set aW (.box e cs')) ((aT s L).set aW (.box e cs')):=by
      refine DQ (k := .own aW) ?_;rw [bT];exact y8 (k := .own b) (ao.pR _) bI
    have ay:aT s R aW=none:=by
      have h:=fh;rw [bT] at h;exact (ao.u7 h).2
    exact ⟨_,w',_,p,_,ef _ _ eD,gv,jx.sub gC,mW.sub gC,⟨aW,b0,cs',rfl,rfl,⟨ay,eh⟩,mX,ov,ow⟩,.ho _⟩
  · obtain ⟨info,d,g1,g2,g3,-⟩:=aP.parts aN
    obtain ⟨nB,db,dF,c8,du,-⟩:=aP.parts dp;obtain ⟨jv,j0,ck,cL,ev,ee,lj,mg⟩:=aP.parts bP;have aA:d = .slice e:=by rw [bw] at g3;cases d<;>simp [ec] at g3;rw [g3]
    subst aA;have cH:∀ k,db ≠ .int k:=fun k e'=>by subst e';exact ed k du.symm
    subst dN;obtain ⟨us,hq,oT,jw,jd,sA,sB,sC⟩:=pU (sz':=b9) eH (.inr rfl);have uE:b4 w p (flat us) ys:=by
      cases hq with
      | cons u _ wU _ hu xn=>
      cases xn;cases hu with
      | agg c _ aw=>simpa [flat,Value.cells] using aw
    have mV:=uE.length;have ox:∀ x∈flat us,x.oneCell'=true:=oQ uE ew;have gE:vs.size=cap*b9:=by rw [← ai8];exact gm
    have hm:(n+1)*b9=n*b9+b9:=aB2 n b9;have agU:(n+1)*b9≤cap*b9:=ao8 _ ak;have cI:=Dp (ty:=o.type) (P:=P) w g2 c8 cH ck b n cap vs cx (xv:=fX) (m:=1) (news:=flat us) (jw P) (by rw [ee,U];exact jd P w (fun _ _ _=>rfl)) ox ak (by rw [ee,U,gE];omega);rw [ee,U] at cI;have hc:b4 w p (vs.toList.take (n*b9)++flat us++vs.toList.drop (n*b9+(flat us).length)) (cs.take (n*b9)++ys++cs.drop (n*b9+(flat us).length)):=b4.append (b4.append iG uE) (cE.drop _);have cK:(aT s L) b=some (.box e cs):=al.get I
    obtain ⟨dq,jS,jf⟩:=u' aI.wf cK (vs':=(vs.toList.take (n*b9)++flat us++vs.toList.drop (n*b9+(flat us).length)).toArray) (cs':=cs.take (n*b9)++ys++cs.drop (n*b9+(flat us).length)) (fun xq bn=>by
      rw [cx] at bn;cases bn
      simp only [ap2,f0,ah',an0,gm]
      rw [gE];omega) (by simpa using hc) _ C
    obtain ⟨f1,f2⟩:=al.put (.box e (cs.take (n*b9)++ys++cs.drop (n*b9+(flat us).length))) I;refine ⟨_,_,_,p,_,ef _ _ cI,dq,jS,jf,⟨b,cap,cs.take (n*b9)++ys++cs.drop (n*b9+(flat us).length),rfl,f1,f2,?_,by omega,?_⟩,.ho _⟩
    · simp only [f0,ah',an0,cm];omega
    · have:(cs.take (n*b9)++ys).length=(n+1)*b9:=by rw [f0,ah',cm];omega
      rw [al5 ak,am4 ak]
theorem ab.yj (aP:bX P Γ) (I:Ok s L) {t bR e:TypeId} {x y:Operand} {it cT aJ:bQ} {eI b9 sz:Nat} {ys:List ag} {dW:bM} (ay:guardOf ops env o=some true) (aA:o.dst=some d) (a1:af' d N=true)
  (ai:o.op = .call { callee := .builtin .append,args := #[x,y],argTypes := #[t,bR] }) (aN:Γ.get? t=some it) (bw:it.bN = .aF e) (dp:Γ.get? bR=some cT) (ed:∀ k,cT.bN ≠ .int k)
  (bP:Γ.get? e=some aJ) (U:aJ.size=sz) (eE:aj4 aJ.zero.cells.size aJ.size=true) (aa:aL env x=some (.aF eI [] .nil)) (ar:aL env y=some (.aF b9 [.agg ys] dW)) (dN:b9=sz) (hs:ys.length=sz) (aq:1*aJ.bytes≤140737488355328)
  (h:∀ aW b0 cs',cs'.length=b0*sz→1≤b0→cs'.take (1*sz)=ys→Ok s ((.own aW,.box e cs')::L)→ab P N ops l Q ((d,dv aW 1 b0)::env) (aT s ((.own aW,.box e cs')::L))):ab P N ops (o::l) Q env (aT s L):=by
 refine ab.op ay aA a1 (aX.yj aP I ai aN bw dp ed bP U eE aa ar dN hs aq (X:=fun _ _=>False)) ?_ (fun _ _ h=>h.elim);rintro r an ⟨aW,b0,cs',rfl,rfl,ad,aj,bk,bF⟩;exact h aW b0 cs' aj bk bF ad
theorem ab.uF (aP:bX P Γ) (I:Ok s L) {t bR e:TypeId} {x y:Operand} {it cT aJ:bQ} {b n cap b9 sz:Nat} {cs ys:List ag} {dW:bM} (ay:guardOf ops env o=some true) (aA:o.dst=some d) (a1:af' d N=true)
  (ai:o.op = .call { callee := .builtin .append,args := #[x,y],argTypes := #[t,bR] }) (aN:Γ.get? t=some it) (bw:it.bN = .aF e) (dp:Γ.get? bR=some cT) (ed:∀ k,cT.bN ≠ .int k)
  (bP:Γ.get? e=some aJ) (U:aJ.size=sz) (eE:aj4 aJ.zero.cells.size aJ.size=true) (aa:aL env x=some (dv b n cap)) (al:bm L (.own b) (.box e cs) R) (cm:cs.length=cap*sz) (av:n≤cap)
  (ar:aL env y=some (.aF b9 [.agg ys] dW)) (dN:b9=sz) (hs:ys.length=sz) (ew:ys.all eZ=true) (aq:(n+1)*aJ.bytes≤140737488355328) (eR:n+1≤9223372036854775807)
  (h:∀ aW b0 cs',cs'.length=b0*sz→n+1≤b0→cs'.take ((n+1)*sz)=cs.take (n*sz)++ys→Ok s ((.own aW,.box e cs')::R)→ab P N ops l Q ((d,dv aW (n+1) b0)::env) (aT s ((.own aW,.box e cs')::R))):ab P N ops (o::l) Q env (aT s L):=by
 refine ab.op ay aA a1 (aX.uF aP I ai aN bw dp ed bP U eE aa al cm av ar dN hs ew aq eR (X:=fun _ _=>False)) ?_ (fun _ _ h=>h.elim);rintro r an ⟨aW,b0,cs',rfl,rfl,ad,aj,bk,bF⟩;exact h aW b0 cs' aj bk bF ad
end
section
variable {J:ao→Prop} {P:Program} {Γ:cz} {N:Nat} {Q:b8→Env→ao→Prop} {env:Env} {s:ao} {l:List Oper} {o:Oper} {d m:Nat} {L R:a6}
theorem bH.yj (i:Nat) (aP:bX P Γ) (I:Ok s L) {t bR e:TypeId} {x y:Operand} {it cT aJ:bQ} {eI b9 sz:Nat} {ys:List ag} {dW:bM} (aC:fA l.toArray m (idxs 0 l)=[i]) (aQ:l.toArray[i]? = some o) (aA:o.dst=some d) (a1:af' d N=true)
  (ay:dO l env o)
  (ai:o.op = .call { callee := .builtin .append,args := #[x,y],argTypes := #[t,bR] }) (aN:Γ.get? t=some it) (bw:it.bN = .aF e) (dp:Γ.get? bR=some cT) (ed:∀ k,cT.bN ≠ .int k)
  (bP:Γ.get? e=some aJ) (U:aJ.size=sz) (eE:aj4 aJ.zero.cells.size aJ.size=true) (aa:aL (cF l env o) x=some (.aF eI [] .nil)) (ar:aL (cF l env o) y=some (.aF b9 [.agg ys] dW)) (dN:b9=sz) (hs:ys.length=sz) (aq:1*aJ.bytes≤140737488355328)
  (aK:∀ aW b0 cs',Ok s ((.own aW,.box e cs')::L)→cs'.length=b0*sz→J (aT s ((.own aW,.box e cs')::L)))
  (h:∀ aW b0 cs',cs'.length=b0*sz→1≤b0→cs'.take (1*sz)=ys→Ok s ((.own aW,.box e cs')::L)→bH J P Γ N l.toArray Q (cA (m|||2^i)) ((d,dv aW 1 b0)::env) (aT s ((.own aW,.box e cs')::L))):bH J P Γ N l.toArray Q (cA m) env (aT s L):=by
 refine bH.one aC aQ aA a1 ay (aX.yj aP I ai aN bw dp ed bP U eE aa ar dN hs aq (X:=fun _ _=>False)) ?_ ?_ (fun _ _ h=>h.elim)
 ·rintro r an ⟨aW,b0,cs',rfl,rfl,ad,aj,bk,bF⟩
  exact .inl (aK aW b0 cs' ad aj)
 ·rintro r an ⟨aW,b0,cs',rfl,rfl,ad,aj,bk,bF⟩
  exact h aW b0 cs' aj bk bF ad
theorem bH.uF (i:Nat) (aP:bX P Γ) (I:Ok s L) {t bR e:TypeId} {x y:Operand} {it cT aJ:bQ} {b n cap b9 sz:Nat} {cs ys:List ag} {dW:bM} (aC:fA l.toArray m (idxs 0 l)=[i]) (aQ:l.toArray[i]? = some o) (aA:o.dst=some d) (a1:af' d N=true)
  (ay:dO l env o)
  (ai:o.op = .call { callee := .builtin .append,args := #[x,y],argTypes := #[t,bR] }) (aN:Γ.get? t=some it) (bw:it.bN = .aF e) (dp:Γ.get? bR=some cT) (ed:∀ k,cT.bN ≠ .int k)
  (bP:Γ.get? e=some aJ) (U:aJ.size=sz) (eE:aj4 aJ.zero.cells.size aJ.size=true) (aa:aL (cF l env o) x=some (dv b n cap)) (al:bm L (.own b) (.box e cs) R) (cm:cs.length=cap*sz) (av:n≤cap)
  (ar:aL (cF l env o) y=some (.aF b9 [.agg ys] dW)) (dN:b9=sz) (hs:ys.length=sz) (ew:ys.all eZ=true) (aq:(n+1)*aJ.bytes≤140737488355328) (eR:n+1≤9223372036854775807)
  (aK:∀ aW b0 cs',Ok s ((.own aW,.box e cs')::R)→cs'.length=b0*sz→J (aT s ((.own aW,.box e cs')::R)))
  (h:∀ aW b0 cs',cs'.length=b0*sz→n+1≤b0→cs'.take ((n+1)*sz)=cs.take (n*sz)++ys→Ok s ((.own aW,.box e cs')::R)→bH J P Γ N l.toArray Q (cA (m|||2^i)) ((d,dv aW (n+1) b0)::env) (aT s ((.own aW,.box e cs')::R))):bH J P Γ N l.toArray Q (cA m) env (aT s L):=by
 refine bH.one aC aQ aA a1 ay (aX.uF aP I ai aN bw dp ed bP U eE aa al cm av ar dN hs ew aq eR (X:=fun _ _=>False)) ?_ ?_ (fun _ _ h=>h.elim)
 ·rintro r an ⟨aW,b0,cs',rfl,rfl,ad,aj,bk,bF⟩
  exact .inl (aK aW b0 cs' ad aj)
 ·rintro r an ⟨aW,b0,cs',rfl,rfl,ad,aj,bk,bF⟩
  exact h aW b0 cs' aj bk bF ad
end
section
variable {P:Program} {Γ:cz} {N:Nat} {env:Env} {s:ao} {ops:Array Oper} {rest:List Oper} {Q:b8→Env→ao→Prop} {L R:a6}
theorem Rf:∀ (ys r:List ag),u4 ys.length (ys++r)=some ys
 | [],r=>by cases r<;>rfl
 | y::ys,r=>by rw [i9,d5,u4,Rf ys r]
theorem Rg:∀ (a r:List ag),rm a.length (a++r)=some r
 | [],r=>rfl
 | y::ys,r=>by rw [i9,d5,rm];exact Rg ys r
def Cn (i:bQ):Bool:=match i.bN with
 | .struct _=>true
 | _=>false
theorem JS {i:bQ} {a ys z:List ag} (U:Cn i=true) (aE:ys.length=i.size) {off:Nat} (bp:a.length=off):hB i (a++(ys++z)) off=some (.agg ys):=by
 unfold hB Cn at *;subst bp;rw [Rg];simp only;split at U
 ·rename_i h;rw [h];simp only;rw [← aE,Rf]
 ·cases U
theorem Rh {xss:List (List ag)} {sz:Nat} (b6:∀ c∈xss,c.length=sz):∀ {j:Nat} {ys:List ag},xss[j]? = some ys→∃ a z,xss.flatten=a++(ys++z)∧a.length=j*sz∧∀ ys',(xss.set j ys').flatten=a++(ys'++z):=by
 induction xss with
 | nil=>intro j ys h;cases h
 | cons x r a8=>
  intro j ys h;cases j with
  | zero=>
   simp at h;subst h;exact ⟨[],r.flatten,by simp,by simp,fun ys'=>by simp⟩
  | succ j=>
   obtain ⟨a,z,U,ad,aj⟩:=a8 (fun c aw=>b6 c (f9 _ aw)) fG;refine ⟨x++a,z,by rw [aw0,U,aj0],by rw [f0,b6 x g8,ad,aB2,as9],fun ys'=>?_⟩;rw [List.set_cons_succ,aw0,aj,aj0]
theorem Ri {xss:List (List ag)} {sz:Nat} (b6:∀ c∈xss,c.length=sz):xss.flatten.length=xss.length*sz:=by
 induction xss with
 | nil=>simp
 | cons x r a8=>rw [aw0,f0,b6 x g8,a8 (fun c aw=>b6 c (f9 _ aw)),i9,aB2,as9]
theorem Rk {i:bQ} {cs:List ag} {xss:List (List ag)} {n j:Nat} {ys:List ag} (U:Cn i=true) (b6:∀ c∈xss,c.length=i.size) (aa:cs.take (n*i.size)=xss.flatten) (aK:xss[j]? = some ys):hB i cs (j*i.size)=some (.agg ys):=by
 obtain ⟨a,z,ad,aj,-⟩:=Rh b6 aK;have:cs=a++(ys++(z++cs.drop (n*i.size))):=by
  conv=>lhs;rw [← am2 (n*i.size) cs,aa,ad]
  simp
 rw [this];exact JS U (b6 ys (d8 aK)) aj
theorem Co:∀ (ys ys' a z:List ag),ys'.length=ys.length→c5 a.length ys' (a++(ys++z))=a++(ys'++z)
  | [],[],a,z,_=>by simp [c5]
  | y::ys,Nc::ys',a,z,h=>by
    have:=Co ys ys' (a++[Nc]) z fG;rw [f0,aj0,aj0] at this;rw [c5,List.set_append_right _ _ (t7 _),Nat.sub_self];exact this
theorem Rl {sz:Nat} {cs:List ag} {xss:List (List ag)} {n j:Nat} {ys ys':List ag} (b6:∀ c∈xss,c.length=sz) (aa:cs.take (n*sz)=xss.flatten) (aK:xss[j]? = some ys) (aE:ys'.length=sz) :
  (c5 (j*sz) ys' cs).length=cs.length∧(c5 (j*sz) ys' cs).take (n*sz)=(xss.set j ys').flatten:=by
 obtain ⟨a,z,ad,aj,bk⟩:=Rh b6 aK;have hs:=b6 ys (d8 aK);have aw:cs=a++(ys++(z++cs.drop (n*sz))):=by
  conv=>lhs;rw [← am2 (n*sz) cs,aa,ad]
  simp
 have hlen:(xss.flatten).length≤n*sz:=by rw [← aa,ah'];omega
 have bF:c5 (j*sz) ys' cs=a++(ys'++(z++cs.drop (n*sz))):=by
  conv=>lhs;rw [aw,← aj]
  exact Co ys ys' a _ ak
 refine ⟨by rw [bF];(conv=>rhs;rw [aw]);simp;omega,?_⟩;rw [bF,bk];by_cases aA:cs.length≤n*sz
 ·rw [as3 aA,d7,am4]
  have:(a++(ys'++z)).length=(a++(ys++z)).length:=by simp;omega
  rw [this,← ad];exact hlen
 ·have fx:(xss.flatten).length=n*sz:=by rw [← aa,ah'];omega
  have gL:(a++(ys'++z)).length=n*sz:=by rw [← fx,ad];simp;omega
  rw [show a++(ys'++(z++cs.drop (n*sz)))=(a++(ys'++z))++cs.drop (n*sz) by simp,al5 ak,am4 ak]
theorem dx.Cp {B:fP} {ro:Option Nat} {a:Act} {w:World} {p:bV} (h:dx N B ro env s a w p) {kb b n cap sz i:Nat} {T T':TypeId} {cells cs:List ag} {xss:List (List ag)} (cN:kb≠b) (jG:s kb=some (.box T cells)) (aw:cells[i]? = some (dv b n cap)) (al:s b=some (.box T' cs)) (aa:cs.take (n*sz)=xss.flatten) (j1:xss.length=n)
  (b6:∀ c∈xss,c.length=sz) (av:n≤cap) (hm:n≤9223372036854775807):∃ bg,dx N B ro env ((s.del b).set kb (.box T (cells.set i (.aF sz (xss.map ag.agg) .a7)))) a w bg∧c2 w p w bg∧Kept s ((s.del b).set kb (.box T (cells.set i (.aF sz (xss.map ag.agg) .a7)))) w p w bg:=by
 obtain ⟨vs,U,ad,aj⟩:=h.wf.obj _ _ al;have au:b<w.heap.size:=(t6.1 U).1;have hle:c2 w p w (p.dT b True):=⟨rfl,rfl,rfl,t7 _,fun _ _ h => .inl h,fun _ _ _=>rfl,fun _ _ h=>h⟩;have dt:∀ v,Rel w p v (dv b n cap)→Rel w (p.dT b True) v (.aF sz (xss.map ag.agg) .a7):=by
  intro v aC;cases aC;have iG:=ad.take (n*sz);rw [aa] at iG;obtain ⟨us,bT,bI,eh⟩:=MK iG b6;refine .aF b 0 n cap sz us (xss.map ag.agg) .a7 bc (by rw [f6,j1]) ?_ (bT.mono hle) eh hm av (fun h=>by cases h) (fun b h=>by cases h);rw [bI];intro i v aQ;refine ⟨.inr ⟨rfl,trivial⟩,?_⟩;rw [aj8,jN U];rw [al'] at aQ;split at aQ
  ·simpa using aQ
  ·cases aQ
 have ax:Kept s ((s.del b).set kb (.box T (cells.set i (.aF sz (xss.map ag.agg) .a7)))) w p w (p.dT b True):=⟨fun _ _ _=>rfl,fun aW aq eO=>by
  have bk:aW≠kb:=fun e=>by subst e;rw [jG] at eO;cases eO
  rw [ao.eQ _ _ bk]
  by_cases e:aW=b
  ·subst e;exact ao.ob _ _
  ·rw [ao.nE _ e];exact eO,fun aW o aq eO aB=>by
   rcases aB with aB|⟨rfl,_⟩
   ·exact aB
   ·rw [al] at eO;cases eO⟩
 have ca:dn w (p.dT b True) ((s.del b).set kb (.box T (cells.set i (.aF sz (xss.map ag.agg) .a7)))):=by
  refine ⟨fun aW o aq=>?_,fun aW o aB=>by rcases aB with aB|⟨rfl,_⟩;exact h.wf.lt _ _ aB;exact au⟩;have fo:aW≠b→∀ o,p.dT b True aW o↔p aW o:=fun e o=>⟨fun aB=>by rcases aB with aB|⟨e',_⟩;exact aB;exact absurd e' e,.inl⟩
  by_cases js:aW=kb
  ·subst js
   rw [ao.fH] at aq;cases aq;obtain ⟨us,g1,g2,g3⟩:=h.wf.obj _ _ jG;obtain ⟨v,nF,lK⟩:=g2.get aw;have bF:=(g2.mono hle).set i (dt v lK);have fx:us.toList.set i v=us.toList:=by
    apply ar0;intro k;rw [av'];split
    ·rename_i e;subst e
     split
     ·rw [nF]
     ·rename_i au;rw [am9 ak]
    ·rfl
   rw [fx] at bF;exact ⟨us,g1,bF,fun o aB=>g3 o ((fo cN o).1 aB)⟩
  rw [ao.eQ _ _ js] at aq;by_cases e:aW=b
  ·subst e;rw [ao.ob] at aq;cases aq
  ·rw [ao.nE _ e] at aq
   have ai:=h.wf.obj aW o aq;have fo:=fo e;cases o with
   | box t c=>obtain ⟨us,g1,g2,g3⟩:=ai;exact ⟨us,g1,g2.mono hle,fun o aB=>g3 o ((fo o).1 aB)⟩
   | row t sz n=>obtain ⟨cur,g1,g2,g3,g4⟩:=ai;exact ⟨cur,g1,g2,g3,fun o=>(fo o).trans (g4 o)⟩
   | map es=>obtain ⟨cr,c,g1,g2,g3⟩:=ai;exact ⟨cr,c,g1,⟨g2.1.mono hle,g2.2.mono hle⟩,g3⟩
   | hz es it l c=>exact ai.qt hle C C
   | tick m=>exact ai
   | loop r env=>exact ⟨ai.1,fun t v h=>(ai.2 t v h).mono hle⟩
 exact ⟨_,h.step hle ax ca,hle,ax⟩
theorem af.Cp {c:Code} (I:Ok s L) {kb b n cap sz:Nat} (i:Nat) {T T':TypeId} {cells cs:List ag} {xss:List (List ag)} {c':a6} (U:bm L (.own kb) (.box T cells) R) (ad:bm R (.own b) (.box T' cs) c') (aw:cells[i]? = some (dv b n cap)) (aa:cs.take (n*sz)=xss.flatten) (j1:xss.length=n) (b6:∀ c∈xss,c.length=sz) (av:n≤cap) (hm:n≤9223372036854775807)
  (h:Ok s ((.own kb,.box T (cells.set i (.aF sz (xss.map ag.agg) .a7)))::c')→af P N c Q env (aT s ((.own kb,.box T (cells.set i (.aF sz (xss.map ag.agg) .a7)))::c'))):af P N c Q env (aT s L):=by
 obtain ⟨g1,g2,g3,g4,g5⟩:=Ip (o'' := .box T (cells.set i (.aF sz (xss.map ag.agg) .a7))) I U ad;intro tU B a w p eL aI;obtain ⟨bg,aj,bk,bF⟩:=aI.Cp g1 g2 aw g3 aa j1 b6 av hm;rw [g4] at aj bF;exact mN (h g5 tU B a w bg eL aj) fun _ _ _ q=>q.after bk bF
end
abbrev h6:=Option (Nat×Nat×List ag)
def sg:h6→List ae→ag
 | none,_ => .aF 0 [] .nil
 | some (g,cap,_),l=>dv g l.length cap
def eV:h6→a6
 | none=>[]
 | some (g,_,cs)=>[(.own g,.box 57 cs)]
def Ft:h6→List ae→Prop
 | none,l=>l=[]
 | some (_,cap,cs),l=>cs.length=cap*6∧l.length≤cap∧cs.take (l.length*6)=(l.map ae.cells).flatten
theorem wh (l:List ae):∀ c∈l.map ae.cells,c.length=6:=fun c aw=>by obtain ⟨x,-,rfl⟩:=ae'.1 aw;rfl
def pD (dL:Nat) (f:ae):bM×ds:=(.own dL,.box 57 f.cells)
theorem ab2 (dL:Nat) (x f:ae) (aa:x.path.length<bK) (aZ:f.path.length<bK):df d4 (.func 200 [] [.ptr dL 0]) [x.bh] [pD dL f] (fun o K=>o = .ret (.bool (fZ x f))∧K=[pD dL f]):=by
 have U:=NH x f aa aZ;have U:aY d4 201 [x.bh,f.bh] (.bool (fZ x f)):=U;refine df.ey (first:=[]) (cap:=[.ptr dL 0]) ?_;refine bs.bj ah Tryz.func200 C C fun s I=>?_
 unfold pD at I ⊢;rw [ae.bJ,ae.bJ] at U;rw [ae.bJ];unfold ae.cells at *;refine hC I ?_;intro I;exact Fin.bz I C aH (az.all _) ⟨rfl,rfl⟩
theorem ab3 (g cap:Nat) (cs:List ag) (l:List ae) (aE:l.length<bK) (U:cs.length=cap*6) (ad:l.length≤cap) (aj:cs.take (l.length*6)=(l.map ae.cells).flatten) (dL:Nat) (f:ae) (aZ:f.path.length<bK) (aB:∀ x∈l,x.path.length<bK) :
  bs d4 261 [dv g l.length cap,.func 200 [] [.ptr dL 0]] [(.own g,.box 57 cs),pD dL f]
   (fun o K=>o = .ret (.int .i64 (match l.findIdx? (fun x=>fZ x f) with
    | some i=>(i:Int)
    | none => -1))∧K=[(.own g,.box 57 cs),pD dL f]):=by
 have aq:=bx;refine bs.bj ah Tryz.func261 C C fun s I=>?_
 unfold pD at I ⊢;refine cX ?_;refine ab.oy ah C C C C C C C ?_;refine fc ?_;refine af.cc [0,1,7] C I (σ:=Nat) (fun j=>[(8,.int .i64 (j:Int))]) (fun _=>[(.own g,.box 57 cs),pD dL f]) (fun j=>j≤l.length∧∀ i x,i<j→l[i]? = some x→fZ x f=false) (fun j=>l.length-j) 0 ⟨g9 _,fun i x aQ=>absurd aQ (av2 _)⟩ (cy C) (az.all _) ?_;rintro j ⟨aK,aG⟩ I;unfold pD at I ⊢;refine cl ?_;refine af.cond C (fun au=>?_) (fun aV=>?_);rotate_left
 ·have aV:j=l.length:=by simp at aV;omega
  have aa:l.findIdx? (fun x=>fZ x f)=none:=by
   rw [am6];intro z bO;obtain ⟨i,aQ⟩:=an6 bO;have U:=sW aQ;exact aG i z ak aQ
  rw [aa];refine fb ?_;exact Fin.bz I C aH (az.all _) ⟨rfl,rfl⟩
 have au:j<l.length:=by simpa using au
 obtain ⟨y,ar⟩:∃ y,l[j]? = some y:=⟨_,f8 au⟩;have iF:=ab2 dL y f (aB y (d8 ar)) aZ;rw [ae.bJ] at iF;unfold pD at iF;refine bd ?_;refine ab.lq ah j C C C C C C C C C C au ?_;refine ab.dY ah I C C C C C C .here (Rk C (wh l) aj (by rw [aj6,ar];rfl)) ?_;skip;refine ab.e0 rfl rfl rfl rfl rfl rfl iF I a' ?_ (fun _ _ ⟨h,_⟩ _=>by cases h);rintro _ _ ⟨⟨⟩,rfl⟩ I;rw [d5,d0] at I ⊢;cases av:fZ y f with
 | true=>
  have aa:l.findIdx? (fun x=>fZ x f)=some j:=by
   rw [ak8];refine ⟨au,by rw [(ac'.1 ar).2];exact av,fun i aQ=>?_⟩;have:=aG i l[i] aQ (f8 ak);simpa using this
  rw [aa];refine bd ?_;exact Fin.bz I C aH (.cons (.there .here) (.cons .here .nil)) ⟨rfl,rfl⟩
 | false=>
  refine bd ?_;refine bA.mk (j+1) I ⟨au,fun i x aQ aa=>?_⟩ ct (.cons (.there .here) (.cons .here .nil)) jV;rcases am1.1 aQ with aQ|rfl
  ·exact aG i x aQ aa
  ·rw [ar] at aa;cases aa;exact av
theorem ab4 {α:Type} (q:α→Bool) (l:List α):(decide ((match l.findIdx? q with
  | some i=>(i:Int)
  | none => -1)≥0))=l.any q:=by
 cases h:l.findIdx? q with
 | none=>
  rw [am6] at h;have:l.any q=false:=by rw [al2];intro x aa;rw [h x aa];simp
  rw [this];rfl
 | some i=>
  rw [ak8] at h;obtain ⟨U,ad,-⟩:=h;have:l.any q=true:=ai6.2 ⟨_,an9 U,ad⟩;rw [this];simp
theorem ab5 (bD:h6) (l:List ae) (aE:l.length<bK) (al:Ft bD l) (dL:Nat) (f:ae) (aZ:f.path.length<bK) (aB:∀ x∈l,x.path.length<bK) :
  bs d4 199 [sg bD l,.func 200 [] [.ptr dL 0]] (eV bD++[pD dL f]) (fun o K=>o = .ret (.bool (l.any fun x=>fZ x f))∧K=eV bD++[pD dL f]):=by
 cases bD with
 | none=>
  have:l=[]:=al;subst this;have h:=H0 (.func 200 [] [.ptr dL 0]) [] (fun _=>[pD dL f]) (fun _=>false) dh (fun j x h=>by cases h);refine bs.mono (bs.args (show b5 [.aF 0 [] .nil,.func 200 [] [.ptr dL 0]] [.aF 6 ([].map ae.bh) .a7,.func 200 [] [.ptr dL 0]] from .cons aR.empty (.one aH)) h) ?_;rintro o K (⟨rfl,rfl,-⟩|⟨j,h,-⟩)
  ·exact ⟨rfl,rfl⟩
  ·exact absurd h (av2 _)
 | some q=>
  obtain ⟨g,cap,cs⟩:=q;obtain ⟨U,ad,aj⟩:=al;rw [← ab4];have h:=ab3 g cap cs l aE U ad aj dL f aZ aB;show bs d4 199 [dv g l.length cap,.func 200 [] [.ptr dL 0]] [(.own g,.box 57 cs),pD dL f] _;refine bs.bj ah Tryz.func199 C C fun s I=>?_
  refine cX ?_;refine ab.bL rfl rfl rfl rfl rfl h I (az.all _) ?_ (fun _ _ ⟨h,_⟩ _=>by cases h);rintro _ _ ⟨⟨⟩,rfl⟩ I;rw [d7] at I ⊢;refine eB ?_;exact Fin.bz I C aH (az.all _) ⟨rfl,rfl⟩
theorem JT {w:World} {p:bV}:∀ {yss:List (List ag)} {us:List Value},b4 w p us (yss.map ag.agg)→b4 w p (flat us) yss.flatten
  | [],us,h=>by cases h;exact .nil
  | c::r,us,h=>by
    cases h with
    | cons u _ wU _ hu aN=>
    cases hu with
    | agg cs _ aw=>
    have:=JT aN;rw [aw0,show flat (Value.agg cs::wU)=cs.toList++flat wU by simp [flat,Value.cells]];exact b4.append aw this
section
variable {P:Program} {Γ:cz} {N:Nat} {ops:Array Oper} {Q:b8→Env→ao→Prop} {env:Env} {s:ao} {l:List Oper} {o:Oper} {d:Nat} {L R:a6}
theorem ab6 (aP:bX P Γ) {w:World} {p:bV} {S:ao} (ca:dn w p S) {t bR e ty:TypeId} {it cT aJ:bQ} {b9 sz:Nat} {olds:List Value} {xs:List ag} {yss:List (List ag)} {dW:bM} {base:Option Addr} {n cap:Nat} {rI:Value}
  (aN:Γ.get? t=some it) (bw:it.bN = .aF e) (dp:Γ.get? bR=some cT) (ed:∀ k,cT.bN ≠ .int k) (bP:Γ.get? e=some aJ) (U:aJ.size=sz) (eE:aj4 aJ.zero.cells.size aJ.size=true)
  (aC:b4 w p olds xs) (av:n*sz=xs.length) (tJ:(Builtin.firstCells sz n (.slice base n cap)).run P w.drew = .ok olds.toArray w.drew) (ar:Rel w p rI (.aF b9 (yss.map ag.agg) dW)) (dN:b9=sz) (hs:∀ c∈yss,c.length=sz)
  (au:cap<n+yss.length) (aq:(n+yss.length)*aJ.bytes≤140737488355328) (eR:n+yss.length≤9223372036854775807) :
  ∃ aW b0 cs' w',(Builtin.append_ #[t,bR] ty #[.slice base n cap,rI]).run P w = .ok (.slice (some ⟨aW,0,none⟩) (n+yss.length) b0) w'∧S aW=none∧c2 w p w' p∧Kept S (S.set aW (.box e cs')) w p w' p∧dn w' p (S.set aW (.box e cs')) ∧
   cs'.length=b0*sz∧n+yss.length≤b0∧cs'.take ((n+yss.length)*sz)=xs++yss.flatten:=by
 obtain ⟨info,d,g1,g2,g3,-⟩:=aP.parts aN;obtain ⟨nB,db,dF,c8,du,-⟩:=aP.parts dp;obtain ⟨jv,j0,ck,cL,ev,ee,lj,mg⟩:=aP.parts bP;have aA:d = .slice e:=by rw [bw] at g3;cases d<;>simp [ec] at g3;rw [g3]
 subst aA;have cH:∀ k,db ≠ .int k:=fun k e'=>by subst e';exact ed k du.symm
 obtain ⟨us,hq,oT,jw,jd,sA,sB,sC⟩:=pU ar (.inr dN);rw [f6] at jw jd;subst dN;have uE:b4 w p (flat us) yss.flatten:=JT hq;have mV:=uE.length;have er:=growslice_fits (need:=n+yss.length) (old:=cap) (bytes:=aJ.bytes) au aq;have cI:=AS (ty:=ty) w g2 c8 cH ck mg (base:=base) (sLen:=n) (sCap:=cap) (m:=yss.length) (olds:=olds) (news:=flat us) (jw P)
  (by rw [ee,U];exact tJ) (by rw [ee,U];exact jd P w.drew (fun _ _ _=>rfl)) au ak (by rw [lj];exact er)
 have oe:n+yss.length≤grownCap w (n+yss.length) cap e:=by simp [grownCap,Question.cut]
 have gq:olds.length=n*b9:=by rw [aC.length,av]
 have pQ:=ai3 eE;generalize tK:(Builtin.zeroCells aJ.zero.cells (grownCap w (n+yss.length) cap e-(n+yss.length))).toList=aO at cI;have oU:aO.length=(grownCap w (n+yss.length) cap e-(n+yss.length))*b9:=by
  rw [← tK,Rc,pQ,U]
 generalize grownCap w (n+yss.length) cap e=G at cI oe oU;have xo:=yK ca
 obtain ⟨al,hle,ax,ln⟩:=sx xo (.cells (olds++flat us++aO).toArray e (0,0)) (.box e (xs++yss.flatten++aO.map fun _ => .any)) (fun w' jc aD gm=>⟨_,jc,by
  refine b4.append (b4.append (gm _ _ (show b4 w.drew p olds xs from aC.mono lb)) (gm _ _ (uE.mono lb))) (b4.Be aO),fun o aB=>absurd (ca.lt _ _ aB) (by show ¬ w.heap.size<w.heap.size;omega)⟩)
 rw [show w.drew.heap.size=w.heap.size from rfl] at al ax ln;have hm:(n+yss.length)*b9=n*b9+yss.length*b9:=ao2 ..;have gd:=Ri hs;refine ⟨w.heap.size,G,xs++yss.flatten++aO.map (fun _=>ag.any),_,cI,al,lb.trans hle,(wK (w:=w) (p:=p)).trans (lb (w:=w) (p:=p)).size ax,ln,?_,oe,?_⟩
 ·simp only [f0,f6,oU]
  rw [← av,gd,← hm,← ao2];congr 1;omega
 ·rw [al5 (by rw [f0,gd];omega),am4 (by rw [f0,gd];omega)]
end
section
variable {P:Program} {Γ:cz} {N:Nat} {env:Env} {s:ao} {ops:Array Oper} {rest:List Oper} {Q:b8→Env→ao→Prop} {L R:a6}
theorem dx.ig {B:fP} {ro:Option Nat} {a:Act} {w:World} {p:bV} (h:dx N B ro env s a w p) {kb:Nat} {T:TypeId} {cells tn:List ag} (jG:s kb=some (.box T cells)) (hle:b5 cells tn) :
  dx N B ro env (s.set kb (.box T tn)) a w p∧Kept s (s.set kb (.box T tn)) w p w p:=by
 have ax:Kept s (s.set kb (.box T tn)) w p w p:=⟨fun _ _ _=>rfl,fun aW aq eO=>by
  have bk:aW≠kb:=fun e=>by subst e;rw [jG] at eO;cases eO
  rw [ao.eQ _ _ bk];exact eO,fun aW o aq eO aB=>aB⟩
 have ca:dn w p (s.set kb (.box T tn)):=by
  refine ⟨fun aW o aq=>?_,h.wf.lt⟩;by_cases js:aW=kb
  ·subst js
   rw [ao.fH] at aq;cases aq;obtain ⟨us,g1,g2,g3⟩:=h.wf.obj _ _ jG;exact ⟨us,g1,hle.rel g2,g3⟩
  ·rw [ao.eQ _ _ js] at aq
   exact h.wf.obj aW o aq
 exact ⟨h.step (.refl w p) ax ca,ax⟩
theorem af.ig {c:Code} (I:Ok s L) {kb:Nat} {T:TypeId} {cells:List ag} (tn:List ag) (U:bm L (.own kb) (.box T cells) R) (hle:b5 cells tn)
  (h:Ok s ((.own kb,.box T tn)::R)→af P N c Q env (aT s ((.own kb,.box T tn)::R))):af P N c Q env (aT s L):=by
 obtain ⟨g1,g2⟩:=U.put (.box T tn) I;intro tU B a w p eL aI;obtain ⟨aj,bF⟩:=aI.ig (U.get I) hle;rw [g1] at aj bF;exact mN (h g2 tU B a w p eL aj) fun _ _ _ q=>q.after (.refl w p) bF
end
section
variable {P:Program} {Γ:cz} {N:Nat} {ops:Array Oper} {Q:b8→Env→ao→Prop} {env:Env} {s:ao} {l:List Oper} {o:Oper} {d:Nat}
theorem aX.tp (aP:bX P Γ) {t e:TypeId} {v:Value} {it aJ:bQ} {x:ag} (ai:o.op = .buildSlice t 1 #[(0,.const v)]) (aN:Γ.get? t=some it) (bw:it.bN = .aF e) (he:Γ.get? e=some aJ) (yO:Nat.ble (1*aJ.size) 16777216=true) (aw:ij v=some x) (b6:aj4 v.cells.size aJ.size=true) :
  aX P N o env s (fun r an=>r = .aF aJ.size [x] .clip∧an=s) (fun _ _=>False):=by
 refine aX.mR hZ fun ro B a w p aI=>?_
 obtain ⟨info,d,U,ad,aj,-⟩:=aP.parts aN;obtain ⟨nB,db,pO,nC,sv,tE,wR,Dg⟩:=aP.parts he;have aA:d = .slice e:=by rw [bw] at aj;cases d<;>simp [ec] at aj;rw [aj]
 subst aA;have al:=ai3 b6;have hm:=Nat.le_of_ble_eq_true yO;have bI:b4 w p [v] [x] := .cons _ _ _ _ (rn aw) .nil;have eh:∀ u∈[v],u.cells.size=aJ.size:=fun u hu=>by rw [i7.1 hu];exact al
 have gd:(flat [v]).length=1*aJ.size:=by simp [flat,al]
 have tF:∀ tG:Array Value,tG.size=1*aJ.size→Instr.fill (fun i=>some (i*aJ.size,aJ.size)) tG ((#[(0,Operand.const v)]:Array (Nat×Operand)).map fun x=>(x.1,a.eval x.2)).toList=some (flat [v]).toArray:=by
  intro tG pQ;have:=LC aJ.size [v] 0 [] tG.toList bc (by rw [ai8,pQ];rfl) eh;simp only [d0] at this;simpa [Act.eval] using this
 refine gT.alloc (flat [v]).toArray e aI.wf.lt (val := .slice (some ⟨w.heap.size,0,none⟩) 1 1) ?_ ?_
 ·unfold execOp
  rw [ai];refine gb ?_;have wS:¬ (1*aJ.size>2^24):=by omega
  unfold Instr.buildSlice;simp only [H1,run_underlying ad,i0,sizeOf,typeInfo,run_program,pO,ai5,tE,f4 wS];by_cases bn:1*aJ.size=0
  ·rw [f7 bn,H1,ai5,i0,tF _ bc]
   rfl
  ·rw [f4 bn]
   simp only [zeroValue,typeInfo,H1,run_program,pO,Dg,ai5,i0];rw [tF _ bc];rfl
 ·refine .aF _ 0 _ _ _ [v] _ _ bc rfl ?_ (bI.mono (u3 aI.wf.lt _ _)) eh ?_ (t7 _) (fun _=>rfl) (fun b aq=>by cases aq)
  ·exact Gw (w:=w) (p:=p) (flat [v]) e
  ·omega
theorem ab.tp (aP:bX P Γ) {t e:TypeId} {v:Value} {it aJ:bQ} {x:ag} (ay:guardOf ops env o=some true) (aA:o.dst=some d) (a1:af' d N=true) (ai:o.op = .buildSlice t 1 #[(0,.const v)]) (aN:Γ.get? t=some it) (bw:it.bN = .aF e) (he:Γ.get? e=some aJ) (yO:Nat.ble (1*aJ.size) 16777216=true) (aw:ij v=some x) (b6:aj4 v.cells.size aJ.size=true)
  (h:ab P N ops l Q ((d,.aF aJ.size [x] .clip)::env) s):ab P N ops (o::l) Q env s:=
 ab.op ay aA a1 (aX.tp aP ai aN bw he yO aw b6) (fun x an ⟨U,ad⟩=>by subst U;subst ad;exact h) (fun _ _ h=>h.elim)
end
end Go.Proofs.YtimbpjfhekcofaaGreat
