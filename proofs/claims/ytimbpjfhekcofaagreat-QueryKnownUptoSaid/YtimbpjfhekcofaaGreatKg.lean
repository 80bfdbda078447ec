import Derived.Test.YtimbpjfhekcofaaGreatKf
set_option linter.unusedVariables false
set_option linter.unusedSimpArgs false
set_option maxRecDepth 100000
set_option maxHeartbeats 4000000
open Bool renaming and_eq_true→d6,and_false→an3,and_true→as0,eq_iff_iff→aj3,false_and→aa',false_eq_true→aj2,false_or→ak4,not_eq_true'→aj7,true_and→i8
open Int renaming ofNat_lt→aI8,toNat_natCast→ai7
open Go.IntKind renaming bits→aq7,wrap→ai'
open List renaming all_eq_true→ai4,any_append→ax2,any_eq_true→ai6,append_assoc→aj0,append_nil→d7,cons_append→d5,cons→au7,drop_zero→aq9,ext_getElem?→ar0,ext_getElem→aB7,filterMap_append→aC6,filterMap_cons→aw9,filterMap_nil→aE3,filter_append→ap6,filter_congr→aE9,filter_cons→an1,find?_eq_none→aq3,findIdx?_cons→aE1,findIdx?_eq_none_iff→am6,findIdx?_eq_some_iff_getElem→ak8,findSome?_cons→aD5,foldl_cons→ak9,foldl_nil→aC5,getD_eq_getElem?_getD→d9,getElem?_append_right→ak0,getElem?_eq_getElem→f8,getElem?_eq_some_iff→ac',getElem?_map→aj6,getElem?_of_mem→an6,getElem?_set→av',getElem_inj→aB6,getElem_map→aw5,getElem_mem→an9,getElem_range→aD',length_append→f0,length_cons→i9,length_eq_one_iff→at9,length_filterMap_le→as',length_filter_le→al8,length_map→f6,length_nil→ai9,length_range→aq0,length_singleton→ad',length_take→ah',map_append→t8,map_congr_left→at4,map_cons→ai2,map_map→ax7,map_nil→aj5,map_set→ax6,mem_append_left→al3,mem_append→ab',mem_cons_of_mem→f9,mem_cons_self→g8,mem_cons→ai1,mem_filterMap→ax5,mem_filter→aj1,mem_flatMap→aq5,mem_map→ae',mem_of_getElem?→d8,mem_range→al4,mem_singleton→i7,nil_append→d0,pairwise_flatMap→aC3,pairwise_iff_getElem→aA8,range_succ→au1,range→ak6,replicate→ai0,set_append_right→ap0,take_length→ag',take_zero→an7
open Nat renaming beq→aj4,ble_eq→ay1,ble→ar4,blt→af',le_refl→t7,le_trans→al7,lt_of_le_of_lt→as5,lt_of_lt_of_le→ap5,lt_succ_iff_lt_or_eq→am1,lt_trichotomy→av9,mul_one→am8,pow_le_pow_right→ap4,pow_succ→aI1,shiftRight_le→aA7,testBit_lt_two_pow→at8,zero_add→aj8,zero_le→g9
open Option renaming getD_some→al1,map_none→aq2,map_some→an8,some→ap7
open Go.Proofs.Tryz renaming prog→d4
namespace Go.Proofs.YtimbpjfhekcofaaGreat
theorem Fu {p:Prop} (h:p:=by (first|rw [lo (by omega)]|(rw [al];done)|(rw [al];rfl))):p:=h
theorem JU {p:Prop} (h:p:=by show ys.length-(j+1)<ys.length-j;omega):p:=h
theorem q' {p:Prop} (h:p:=by show (_+1)*80≤_;omega):p:=h
section
variable {J:ao→Prop} {P:Program} {Γ:cz} {N:Nat} {ops:Array Oper} {Q:b8→Env→ao→Prop} {env:Env} {s:ao} {l:List Oper} {o:Oper} {d m:Nat} {L R:a6}
theorem aX.Fv (aP:bX P Γ) (I:Ok s L) {t bR e:TypeId} {x y:Operand} {it cT aJ:bQ} {eI b9 sz:Nat} {xss yss:List (List ag)} {dW:bM}
  (ai:o.op = .call { callee := .builtin .append,args := #[x,y],argTypes := #[t,bR] }) (aN:Γ.get? t=some it) (bw:it.bN = .aF e) (dp:Γ.get? bR=some cT) (ed:∀ k,cT.bN ≠ .int k)
  (bP:Γ.get? e=some aJ) (U:aJ.size=sz) (eE:aj4 aJ.zero.cells.size aJ.size=true) (aa:aL env x=some (.aF eI (xss.map ag.agg) .clip)) (jO:eI=sz) (j1:∀ c∈xss,c.length=sz) (ar:aL env y=some (.aF b9 (yss.map ag.agg) dW)) (dN:b9=sz) (hs:∀ c∈yss,c.length=sz) (cN:1≤yss.length) (aq:(xss.length+yss.length)*aJ.bytes≤140737488355328) (eR:xss.length+yss.length≤9223372036854775807)
  {X:ag→ao→Prop}:aX P N o env (aT s L) (fun r an=>JR s L e sz (xss.length+yss.length) (xss.flatten++yss.flatten) r an) X:=by
 refine aX.jZ hZ fun ro B a w p aI=>?_
 have fz:=aI.aL aa;have eH:=aI.aL ar;have ef:=fun val w'=>vt (P:=P) (a:=a) (val:=val) (w:=w) (w':=w') ai
 generalize dM:a.eval x=dy at fz ef;generalize fj:a.eval y=fX at eH ef;have kP:∀ base n cap,dy = .slice base n cap→cap=n:=fun base n cap e=>by
  subst e;generalize fi:xss.map ag.agg=xs at fz;cases fz with
  | iA=>rfl
  | jo a _ _ h=>rfl
  | aF g off n cap _ vs _ _ av aE aw aC al hm ax cm ai=>exact cm C
 obtain ⟨us,hq,oT,jw,jd,base,cap,rfl⟩:=pU fz (.inr jO);have aw:=kP _ _ _ C;subst aw;rw [f6] at jd ef;obtain ⟨aW,b0,cs',w',eD,fh,gv,jx,mW,mX,ov,ow⟩:=ab6 (ty:=o.type) aP aI.wf (base:=base) (n:=xss.length) (cap:=xss.length) (olds:=flat us) (xs:=xss.flatten) aN bw dp ed bP U eE (JT hq) (by rw [Ri j1]) (jd P w.drew (fun _ _ _=>rfl)) eH dN hs ak aq eR;exact ⟨_,w',_,p,_,ef _ _ eD,gv,jx,mW,⟨aW,b0,cs',rfl,rfl,⟨fh,I⟩,mX,ov,ow⟩,.ho _⟩
theorem bH.Fv (i:Nat) (aP:bX P Γ) (I:Ok s L) {t bR e:TypeId} {x y:Operand} {it cT aJ:bQ} {eI b9 sz:Nat} {xss yss:List (List ag)} {dW:bM} (aC:fA l.toArray m (idxs 0 l)=[i]) (aQ:l.toArray[i]? = some o) (aA:o.dst=some d) (a1:af' d N=true)
  (ay:dO l env o)
  (ai:o.op = .call { callee := .builtin .append,args := #[x,y],argTypes := #[t,bR] }) (aN:Γ.get? t=some it) (bw:it.bN = .aF e) (dp:Γ.get? bR=some cT) (ed:∀ k,cT.bN ≠ .int k)
  (bP:Γ.get? e=some aJ) (U:aJ.size=sz) (eE:aj4 aJ.zero.cells.size aJ.size=true) (aa:aL (cF l env o) x=some (.aF eI (xss.map ag.agg) .clip)) (jO:eI=sz) (j1:∀ c∈xss,c.length=sz) (ar:aL (cF l env o) y=some (.aF b9 (yss.map ag.agg) dW)) (dN:b9=sz) (hs:∀ c∈yss,c.length=sz) (cN:1≤yss.length) (aq:(xss.length+yss.length)*aJ.bytes≤140737488355328) (eR:xss.length+yss.length≤9223372036854775807)
  (aK:∀ aW b0 cs',Ok s ((.own aW,.box e cs')::L)→cs'.length=b0*sz→J (aT s ((.own aW,.box e cs')::L)))
  (h:∀ aW b0 cs',cs'.length=b0*sz→xss.length+yss.length≤b0→cs'.take ((xss.length+yss.length)*sz)=xss.flatten++yss.flatten→Ok s ((.own aW,.box e cs')::L)→bH J P Γ N l.toArray Q (cA (m|||2^i)) ((d,dv aW (xss.length+yss.length) b0)::env) (aT s ((.own aW,.box e cs')::L))):bH J P Γ N l.toArray Q (cA m) env (aT s L):=by
 refine bH.one aC aQ aA a1 ay (aX.Fv aP I ai aN bw dp ed bP U eE aa jO j1 ar dN hs cN aq eR (X:=fun _ _=>False)) ?_ ?_ (fun _ _ h=>h.elim)
 ·rintro r an ⟨aW,b0,cs',rfl,rfl,ad,aj,bk,bF⟩
  exact .inl (aK aW b0 cs' ad aj)
 ·rintro r an ⟨aW,b0,cs',rfl,rfl,ad,aj,bk,bF⟩
  exact h aW b0 cs' aj bk bF ad
theorem bH.oy (i:Nat) (aP:bX P Γ) (cU:J s) {t e:TypeId} {x:Operand} {it:bQ} {b n cap:Nat} (aC:kR l.toArray m i=true) (aQ:l.toArray[i]? = some o) (aA:o.dst=some d) (a1:af' d N=true)
  (ay:dO l env o) (ai:o.op = .call { callee := .builtin .len,args := #[x],argTypes := #[t] }) (aN:Γ.get? t=some it) (bw:it.bN = .aF e) (aa:aL (cF l env o) x=some (dv b n cap))
  (h:bH J P Γ N l.toArray Q (cA (m|||2^i)) ((d,.int .i64 n)::env) s):bH J P Γ N l.toArray Q (cA m) env s:=
 bH.xk cU aC aQ aA a1 ay (fun _ _=>aX.oy aP ai aN bw aa) h
theorem bH.tp (i:Nat) (aP:bX P Γ) (cU:J s) {t e:TypeId} {v:Value} {it aJ:bQ} {x:ag} (aC:kR l.toArray m i=true) (aQ:l.toArray[i]? = some o) (aA:o.dst=some d) (a1:af' d N=true)
  (ay:dO l env o) (ai:o.op = .buildSlice t 1 #[(0,.const v)]) (aN:Γ.get? t=some it) (bw:it.bN = .aF e) (he:Γ.get? e=some aJ) (yO:ar4 (1*aJ.size) 16777216=true) (aw:ij v=some x) (b6:aj4 v.cells.size aJ.size=true)
  (h:bH J P Γ N l.toArray Q (cA (m|||2^i)) ((d,.aF aJ.size [x] .clip)::env) s):bH J P Γ N l.toArray Q (cA m) env s:=
 bH.xk cU aC aQ aA a1 ay (fun _ _=>aX.tp aP ai aN bw he yO aw b6) h
end
theorem yk (arg c:Int):aY d4 117 [.int .i64 arg,.int .i64 c] ((fl arg c).bh):=by
 have aq:=bx;refine aY.bj ah Tryz.func117 C C fun s I=>?_
 unfold fl;rw [ae.bJ];unfold ae.cells;simp only [ae.op,ae.arg,ae.path,ae.cls,ae.n,ae.kids,aj5]
 repeat (first|(refine sO I ?_;clear I;intro I)|refine ab.c3 ah I rfl rfl rfl rfl rfl rfl rfl (fun cu I=>?_))
 exact Fin.cZ I (iS C C (bm.get aO I) C) (aR.agg (.cons aH (.cons aH (.cons aR.empty (.cons aH (.cons aH (.one aR.empty)))))))
theorem JV (f:ae):aY d4 122 [f.bh] (f.not.bh):=by
 have aq:=bx;refine aY.bj ah Tryz.func122 C C fun s I=>?_
 unfold ae.not;rw [ae.bJ,ae.bJ];simp only [ae.cells,ae.op,ae.arg,ae.path,ae.cls,ae.n,ae.kids,ai2,aj5];rw [ae.bJ];unfold ae.cells
 repeat (first|(refine sO I ?_;clear I;intro I)|refine ab.c3 ah I rfl rfl rfl rfl rfl rfl rfl (fun cu I=>?_))
 exact Fin.cZ I (iS C C (bm.get aO I) C) (aR.agg (.cons aH (.cons aH (.cons aR.empty (.cons aH (.cons aH (.one aR.a7)))))))
theorem ab7 (x y:ae):cY d4 (.func 120 [] [.bl x.cells 0]) [y.bh] (.bool (decide (y.op=x.op)&&decide (y.n=x.n))):=by
 have aq:=bx;refine cY.ey (first:=[]) (cap:=[.bl x.cells 0]) ?_;refine aY.bj ah Tryz.func120 C C fun s I=>?_
 rw [ae.bJ];unfold ae.cells;by_cases h:y.op=x.op
 ·rw [i6 h,i8]
  refine cX ?_;refine ab.fM 9 C fG ?_;refine eB ?_;exact b2 I
 ·rw [M2 h,aa']
  refine cX ?_;refine ab.eP 9 C fG ?_;refine bd ?_;exact b2 I
def gj:h6→List ae→ag
 | none,l => .aF 6 (l.map ae.bh) .clip
 | some (g,cap,_),l=>dv g l.length cap
def k6:h6→List ae→Prop
 | none,_=>True
 | some (g,cap,cs),l=>Ft (some (g,cap,cs)) l
theorem ab8 (fv:ag) (q:ae→Bool) (iL:h6) (xs:List ae) (aE:xs.length<bK) (aZ:k6 iL xs) (h:∀ x∈xs,cY d4 fv [x.bh] (.bool (q x))):bs d4 119 [gj iL xs,fv] (eV iL) (fun o K=>o = .ret (.bool (xs.any q))∧K=eV iL):=by
 have aq:=bx;cases iL with
 | none=>
  have U:=aY.args (.cons (aR.a7 (own := .clip)) (.one aH)) (abP fv q xs aE h);intro s I;exact hX.mono (U s) fun o an ⟨bT,bI⟩=>⟨[],by rw [bI];rfl,trivial,bT,rfl⟩
 | some z=>
  obtain ⟨g,cap,cs⟩:=z;obtain ⟨U,ad,aj⟩:=aZ;refine bs.bj ah Tryz.func119 C C fun s I=>?_
  simp only [gj,eV] at I ⊢;refine cX ?_;refine ab.oy ah C C C C C C C ?_;refine fc ?_;refine af.cc [1,7,8] C I (σ:=Nat) (fun j=>[(9,.int .i64 (j:Int))]) (fun _=>[(.own g,.box 57 cs)]) (fun j=>j≤xs.length∧xs.any q=(xs.drop j).any q) (fun j=>xs.length-j) 0 ⟨g9 _,rfl⟩ (cy C) (az.all _) ?_;rintro j ⟨aK,aG⟩ I
  try simp only at aK aG I ⊢
  refine cl ?_;refine af.cond C (fun au=>?_) (fun aV=>?_);rotate_left
  ·have aV:j=xs.length:=by simp at aV;omega
   rw [fe ak,List.any_nil] at aG;rw [aG];refine fb ?_;exact Fin.bz I C aH (az.all _) ⟨rfl,rfl⟩
  have au:j<xs.length:=by simpa using au
  obtain ⟨y,ar⟩:∃ y,xs[j]? = some y:=⟨_,f8 au⟩;have aD:=h y (d8 ar);rw [drop_cons ar,List.any_cons] at aG;rw [ae.bJ] at aD;refine fc ?_;refine ab.lq ah j C C C C C C C C C C au ?_;refine ab.dY ah I C C C C C C .here (Rk C (wh xs) aj (by rw [aj6,ar];rfl)) ?_;unfold ae.cells at aD;unfold ae.cells;refine ej ?_;cases bf:q y with
  | true=>
   rw [bf] at aG aD;rw [aG];refine bd ?_;exact Fin.bz I C aH (az.all _) ⟨rfl,rfl⟩
  | false=>
   rw [bf] at aG aD;refine bd ?_;exact bA.mk (j+1) I ⟨au,by rw [aG];rfl⟩ ct (az.all _) mq
def cB (arg:Int) (eN dI:Nat):ag := .func 118 [] [.bl [.int .i64 arg] 0,.ptr eN 0,.ptr dI 0]
def cd (arg:Int) (eN dI:Nat) (iL:h6) (l:List ae):a6:=[(.own eN,.box 28 [gj iL l]),(.own dI,.box 181 [cB arg eN dI])]++eV iL
mutual
theorem k7 (arg:Int):∀ (f:ae) (l:List ae),(fO arg l f).length≤l.length+f.size
  | .mk o a p c n ks,l=>by
    rw [fO,ae.size];have U:=Rm arg ks (qZ arg l (.mk o a p c n ks));have ad:(qZ arg l (.mk o a p c n ks)).length≤l.length+1:=by unfold qZ;split<;>simp
    omega
theorem Rm (arg:Int):∀ (ks:List ae) (l:List ae),(dw arg l ks).length≤l.length+ae.cM ks
  | [],l=>by rw [dw,ae.cM];omega
  | x::r,l=>by
    rw [dw,ae.cM];have U:=Rm arg r (fO arg l x);have ad:=k7 arg x l;omega
end
theorem JW (l:List ae):l.map ae.bh=(l.map ae.cells).map ag.agg:=by
 rw [ax7];exact at4 fun x _=>ae.bJ x
theorem b5.JX:∀ {xs ys:List ag} {i:Nat} {u v:ag},b5 xs ys→aR u v→b5 (xs.set i u) (ys.set i v)
 | _,_,_,_,_,.nil,_ => .nil
 | _,_,0,_,_,.cons _ ad,h => .cons h ad
 | _,_,i+1,_,_,.cons U ad,h => .cons U (b5.JX ad h)
theorem b5.uG:∀ {us vs xs ys:List ag} {off:Nat},b5 us vs→b5 xs ys→b5 (c5 off us xs) (c5 off vs ys)
 | _,_,_,_,_,.nil,h=>h
 | _,_,_,_,_,.cons U ad,h=>by rw [c5,c5];exact b5.uG ad (b5.JX h U)
def yl:List ag:=[.int .i64 0,.int .i64 0,.aF 0 [] .nil,.int .i64 0,.int .i64 0,.aF 0 [] .nil]
theorem Ro:∀ c∈[yl],c.length=6:=fun c h=>by rw [i7.1 h];rfl
theorem wi {g cap:Nat} {cs zc:List ag} {l:List ae} {x:ae} (cx:cs.length=cap*6) (cE:l.length+1≤cap) (dz:cs.take ((l.length+1)*6)=(l.map ae.cells).flatten++zc) (bO:zc.length=6):k6 (some (g,cap,c5 (l.length*6) x.cells cs)) (l++[x]):=by
 have al:∀ c∈l.map ae.cells++[zc],c.length=6:=fun c aw=>by
  rcases ab'.1 aw with h|h
  ·exact wh l c h
  ·rw [i7.1 h];exact bO
 obtain ⟨U,ad⟩:=Rl (ys':=x.cells) al (by rw [dz];simp) (show (l.map ae.cells++[zc])[l.length]? = some zc by rw [ak0 bc];simp) C;refine ⟨U.trans cx,by rw [f0,ad'];exact cE,?_⟩;rw [f0,ad',ad,ap0 _ _ bc];simp
theorem ab9 (arg:Int) (eN dI:Nat):∀ (k:Nat) (f:ae),f.size≤k→∀ (iL:h6) (l:List ae),k6 iL l→l.length+f.size<1000000 →
  df d4 (cB arg eN dI) [f.bh] (cd arg eN dI iL l) (fun o K=>o = .ret (.bW [])∧∃ Rq,k6 Rq (fO arg l f)∧K=cd arg eN dI Rq (fO arg l f)):=by
 have aq:=bx;intro k
 induction k with
 | zero=>intro f aZ;have:=ae.size_eq f;omega
 | succ k a8=>
  intro f aZ iL l gd hlen;have b6:=ae.size_eq f;have lR:=ae.vy f.kids;have fs:fO arg l f=dw arg (qZ arg l f) f.kids:=by cases f;rw [fO];rfl
  rw [fs];have hR:qZ arg l f=if oG arg f && !l.any (fun y=>decide (y.op=f.op)&&decide (y.n=f.n)) then l++[.mk f.op arg [] 0 f.n []] else l:=rfl
  have kC:oG arg f=((decide (f.op=3)||decide (f.op=4))&&(decide (f.arg=arg)&&decide (f.path.length=0))):=rfl;have my:=ab8 (.func 120 [] [.bl f.cells 0]) (fun y=>decide (y.op=f.op)&&decide (y.n=f.n)) iL l ak gd (fun y _=>ab7 f y);refine df.ey (first:=[]) (cap:=[.bl [.int .i64 arg] 0,.ptr eN 0,.ptr dI 0]) ?_;refine bs.bj ah Tryz.func118 C C fun s I=>?_
  rw [ae.bJ];unfold cd cB at I;simp only [d5,d0] at I ⊢;unfold ae.cells at *;refine cX ?_;by_cases bn:f.op=3
  ·refine ab.fM 10 C (by simpa using bn) ?_
   refine nN ?_;by_cases ad:f.arg=arg;rotate_left
   ·refine ab.eP 21 C (by simpa using ad) ?_
    rw [kC,M2 ad,aa',an3,aa'] at hR;rw [f4 bc] at hR;rw [hR];refine bd ?_;refine af.cc [1,2,3,45,46] C I (σ:=Nat×h6×List ae) (fun q=>[(47,.int .i64 (q.1:Int))]) (fun q=>cd arg eN dI q.2.1 q.2.2) (fun q=>q.1≤f.kids.length∧k6 q.2.1 q.2.2∧dw arg l f.kids=dw arg q.2.2 (f.kids.drop q.1)∧q.2.2.length+ae.cM (f.kids.drop q.1)<1000000) (fun q=>f.kids.length-q.1) (0,iL,l) ⟨g9 _,gd,rfl,by show (l).length+ae.cM f.kids<_;(have:=b6;omega)⟩ (cy C) (by simp only [cd,cB,eV,gj,d5,d0,f0,i9,ai9];exact az.all _) ?_;rintro ⟨j,fm,cp⟩ ⟨aK,ea,aG,cV⟩ I;simp only at aK ea aG cV I ⊢;unfold cd cB at I ⊢;simp only [d5,d0] at I ⊢;refine cl ?_;refine af.cond C (fun au=>?_) (fun aV=>?_);rotate_left
    ·have aV:j=f.kids.length:=by simp at aV;omega
     rw [fe ak,dw] at aG;rw [aG];refine ki ?_;exact Fin.bz I C aH (az.all _) ⟨rfl,fm,ea,rfl⟩
    have au:j<f.kids.length:=by simpa using au
    obtain ⟨y,ar,cf⟩:=b' (f:=ae.bh) au;have eJ:=d8 ar;have gl:=ae.hg eJ;rw [drop_cons ar,dw] at aG;rw [drop_cons ar,ae.cM] at cV;have cw:=a8 y ak fm cp ea ak;have n3:=k7 arg y cp;rw [ae.bJ] at cf cw;unfold cd cB at cw;simp only [d5,d0] at cw;unfold ae.cells at cf cw;refine jB I ?_;intro I;refine ab.e0 rfl rfl rfl rfl rfl rfl cw I (az.all _) ?_ (fun _ _ ⟨h,_⟩ _=>by cases h);rintro _ _ ⟨⟨⟩,hS,hT,rfl⟩ I;rw [d7] at I ⊢
    try unfold cd cB at I
    try unfold cd cB
    try simp only [d5,d0] at I
    try simp only [d5,d0]
    refine eF ?_;exact bA.mk (j+1,hS,fO arg cp y) I ⟨au,hT,aG,by show (fO arg cp y).length+ae.cM (f.kids.drop (j+1))<_;omega⟩ ct (by simp only [cd,cB,d5,d0];exact az.all _) kG
   refine ab.fM 21 C (by simpa using ad) ?_;refine fB ?_;by_cases aj:f.path.length=0;rotate_left
   ·refine ab.eP 27 C (by simpa using aj) ?_
    rw [kC,M2 aj,an3,an3,aa'] at hR;rw [f4 bc] at hR;rw [hR];refine bd ?_;refine af.cc [1,2,3,45,46] C I (σ:=Nat×h6×List ae) (fun q=>[(47,.int .i64 (q.1:Int))]) (fun q=>cd arg eN dI q.2.1 q.2.2) (fun q=>q.1≤f.kids.length∧k6 q.2.1 q.2.2∧dw arg l f.kids=dw arg q.2.2 (f.kids.drop q.1)∧q.2.2.length+ae.cM (f.kids.drop q.1)<1000000) (fun q=>f.kids.length-q.1) (0,iL,l) ⟨g9 _,gd,rfl,by show (l).length+ae.cM f.kids<_;(have:=b6;omega)⟩ (cy C) (by simp only [cd,cB,eV,gj,d5,d0,f0,i9,ai9];exact az.all _) ?_;rintro ⟨j,fm,cp⟩ ⟨aK,ea,aG,cV⟩ I;simp only at aK ea aG cV I ⊢;unfold cd cB at I ⊢;simp only [d5,d0] at I ⊢;refine cl ?_;refine af.cond C (fun au=>?_) (fun aV=>?_);rotate_left
    ·have aV:j=f.kids.length:=by simp at aV;omega
     rw [fe ak,dw] at aG;rw [aG];refine ki ?_;exact Fin.bz I C aH (az.all _) ⟨rfl,fm,ea,rfl⟩
    have au:j<f.kids.length:=by simpa using au
    obtain ⟨y,ar,cf⟩:=b' (f:=ae.bh) au;have eJ:=d8 ar;have gl:=ae.hg eJ;rw [drop_cons ar,dw] at aG;rw [drop_cons ar,ae.cM] at cV;have cw:=a8 y ak fm cp ea ak;have n3:=k7 arg y cp;rw [ae.bJ] at cf cw;unfold cd cB at cw;simp only [d5,d0] at cw;unfold ae.cells at cf cw;refine jB I ?_;intro I;refine ab.e0 rfl rfl rfl rfl rfl rfl cw I (az.all _) ?_ (fun _ _ ⟨h,_⟩ _=>by cases h);rintro _ _ ⟨⟨⟩,hS,hT,rfl⟩ I;rw [d7] at I ⊢
    try unfold cd cB at I
    try unfold cd cB
    try simp only [d5,d0] at I
    try simp only [d5,d0]
    refine eF ?_;exact bA.mk (j+1,hS,fO arg cp y) I ⟨au,hT,aG,by show (fO arg cp y).length+ae.cM (f.kids.drop (j+1))<_;omega⟩ ct (by simp only [cd,cB,d5,d0];exact az.all _) kG
   refine ab.fM 27 C (by simpa using aj) ?_;rw [kC,i6 ad,i6 aj,i6 bn,Bool.true_or] at hR;refine kh I ?_;intro I;cases iL with
   | none=>
    simp only [gj,eV] at I;simp only [gj,eV] at my
    try simp only [gj,eV]
    refine ab.bL rfl rfl rfl rfl rfl my I .nil ?_ (fun _ _ ⟨h,_⟩ _=>by cases h);rintro _ _ ⟨⟨⟩,rfl⟩ I;rw [d0] at I ⊢;cases jW:l.any (fun y=>decide (y.op=f.op)&&decide (y.n=f.n)) with
    | true=>
     rw [jW,f4 bc] at hR;rw [hR];refine bd ?_;refine af.cc [1,2,3,45,46] C I (σ:=Nat×h6×List ae) (fun q=>[(47,.int .i64 (q.1:Int))]) (fun q=>cd arg eN dI q.2.1 q.2.2) (fun q=>q.1≤f.kids.length∧k6 q.2.1 q.2.2∧dw arg l f.kids=dw arg q.2.2 (f.kids.drop q.1)∧q.2.2.length+ae.cM (f.kids.drop q.1)<1000000) (fun q=>f.kids.length-q.1) (0,(none:h6),l) ⟨g9 _,trivial,rfl,by show (l).length+ae.cM f.kids<_;(have:=b6;omega)⟩ (cy C) (by simp only [cd,cB,eV,gj,d5,d0,f0,i9,ai9];exact az.all _) ?_;rintro ⟨j,fm,cp⟩ ⟨aK,ea,aG,cV⟩ I;simp only at aK ea aG cV I ⊢;unfold cd cB at I ⊢;simp only [d5,d0] at I ⊢;refine cl ?_;refine af.cond C (fun au=>?_) (fun aV=>?_);rotate_left
     ·have aV:j=f.kids.length:=by simp at aV;omega
      rw [fe ak,dw] at aG;rw [aG];refine ki ?_;exact Fin.bz I C aH (az.all _) ⟨rfl,fm,ea,rfl⟩
     have au:j<f.kids.length:=by simpa using au
     obtain ⟨y,ar,cf⟩:=b' (f:=ae.bh) au;have eJ:=d8 ar;have gl:=ae.hg eJ;rw [drop_cons ar,dw] at aG;rw [drop_cons ar,ae.cM] at cV;have cw:=a8 y ak fm cp ea ak;have n3:=k7 arg y cp;rw [ae.bJ] at cf cw;unfold cd cB at cw;simp only [d5,d0] at cw;unfold ae.cells at cf cw;refine jB I ?_;intro I;refine ab.e0 rfl rfl rfl rfl rfl rfl cw I (az.all _) ?_ (fun _ _ ⟨h,_⟩ _=>by cases h);rintro _ _ ⟨⟨⟩,hS,hT,rfl⟩ I;rw [d7] at I ⊢
     try unfold cd cB at I
     try unfold cd cB
     try simp only [d5,d0] at I
     try simp only [d5,d0]
     refine eF ?_;exact bA.mk (j+1,hS,fO arg cp y) I ⟨au,hT,aG,by show (fO arg cp y).length+ae.cM (f.kids.drop (j+1))<_;omega⟩ ct (by simp only [cd,cB,d5,d0];exact az.all _) kG
    | false=>
     rw [jW,f7 bc] at hR;rw [hR];refine dS ?_;refine af.oW ah mixed C (bb.run C ?_);refine bH.tp 8 ah trivial C C C C C C C C C C C C ?_;refine bb.run C ?_;refine bb.dY 0 ah I C C C C C C C C aO bZ ?_;refine bb.run C ?_;refine bH.Fv (xss:=l.map ae.cells) (yss:=[yl]) 9 ah I C C C C C C C C C dB C C C (by rw [← JW];rfl) C (wh l) C C Ro dh (by rw [f6];show (_+1)*80≤_;omega) (by rw [f6];show _+1≤_;omega) (fun _ _ _ _ _=>trivial) (fun g cap cs cx cE dz I=>?_);rw [f6] at cE dz ⊢;have cx:cs.length=cap*6:=cx;have cE:l.length+1≤cap:=cE;have dz:cs.take ((l.length+1)*6)=(l.map ae.cells).flatten++yl:=dz.trans bc;have er:ar4 (l.length*6+6) cs.length=true:=by rw [ay1,cx];have oB:l.length+1≤cap:=cE;omega
     try unfold cd cB at I
     try unfold cd cB
     try simp only [d5,d0,eV,gj] at I
     try simp only [d5,d0,eV,gj]
     refine bb.run C ?_;refine bH.lq 10 ah trivial (j:=l.length) C C C C C C C C C C C bc (by show _<_+1;omega) ?_;refine bb.run C ?_;refine bb.many C (de.c (fq.jP (i:=11) C C C (aX.cC ah I C C C C C C C aO er (X:=fun _ _=>False)) ?_ (fun _ _ h=>False.elim h)) (de.c (fq.jP (i:=12) C C C (aX.cC ah I C C C C C C C aO C (X:=fun _ _=>False)) ?_ (fun _ _ h=>False.elim h)) de.n))
     ·rintro _ _ ⟨rfl,I⟩
      refine bb.run C ?_;refine bb.many C (de.c (fq.jP (i:=12) C C C (aX.cC ah I C C C C C C C aO C (X:=fun _ _=>False)) ?_ (fun _ _ h=>False.elim h)) de.n)
      ·rintro _ _ ⟨rfl,I⟩
       refine bb.run C ?_;refine bb.done C ?_;refine af.ig I (c5 (l.length*6) (ae.mk f.op arg [] 0 f.n []).cells cs) (kb:=g) aO (b5.uG (.cons aH (.cons aH (.cons aR.empty (.cons aH (.cons aH (.one aR.empty)))))) (b5.refl _)) (fun I=>?_);refine gp ?_;refine af.cc [1,2,3,45,46] C I (σ:=Nat×h6×List ae) (fun q=>[(47,.int .i64 (q.1:Int))]) (fun q=>cd arg eN dI q.2.1 q.2.2) (fun q=>q.1≤f.kids.length∧k6 q.2.1 q.2.2∧dw arg (l++[ae.mk f.op arg [] 0 f.n []]) f.kids=dw arg q.2.2 (f.kids.drop q.1)∧q.2.2.length+ae.cM (f.kids.drop q.1)<1000000) (fun q=>f.kids.length-q.1) (0,(some (g,cap,c5 (l.length*6) (ae.mk f.op arg [] 0 f.n []).cells cs)),(l++[ae.mk f.op arg [] 0 f.n []])) ⟨g9 _,(wi cx cE dz C),rfl,by show ((l++[ae.mk f.op arg [] 0 f.n []])).length+ae.cM f.kids<_;(rw [f0,ad'];have:=b6;omega)⟩ (cy C) (by simp only [cd,cB,eV,gj,d5,d0,f0,i9,ai9];exact a') ?_;rintro ⟨j,fm,cp⟩ ⟨aK,ea,aG,cV⟩ I;simp only at aK ea aG cV I ⊢;unfold cd cB at I ⊢;simp only [d5,d0] at I ⊢;refine cl ?_;refine af.cond C (fun au=>?_) (fun aV=>?_);rotate_left
       ·have aV:j=f.kids.length:=by simp at aV;omega
        rw [fe ak,dw] at aG;rw [aG];refine ki ?_;exact Fin.bz I C aH (az.all _) ⟨rfl,fm,ea,rfl⟩
       have au:j<f.kids.length:=by simpa using au
       obtain ⟨y,ar,cf⟩:=b' (f:=ae.bh) au;have eJ:=d8 ar;have gl:=ae.hg eJ;rw [drop_cons ar,dw] at aG;rw [drop_cons ar,ae.cM] at cV;have cw:=a8 y ak fm cp ea ak;have n3:=k7 arg y cp;rw [ae.bJ] at cf cw;unfold cd cB at cw;simp only [d5,d0] at cw;unfold ae.cells at cf cw;refine jB I ?_;intro I;refine ab.e0 rfl rfl rfl rfl rfl rfl cw I (az.all _) ?_ (fun _ _ ⟨h,_⟩ _=>by cases h);rintro _ _ ⟨⟨⟩,hS,hT,rfl⟩ I;rw [d7] at I ⊢
       try unfold cd cB at I
       try unfold cd cB
       try simp only [d5,d0] at I
       try simp only [d5,d0]
       refine eF ?_;exact bA.mk (j+1,hS,fO arg cp y) I ⟨au,hT,aG,by show (fO arg cp y).length+ae.cM (f.kids.drop (j+1))<_;omega⟩ ct (by simp only [cd,cB,d5,d0];exact az.all _) kG
     ·rintro _ _ ⟨rfl,I⟩
      refine bb.run C ?_;refine bb.many C (de.c (fq.jP (i:=11) C C C (aX.cC ah I C C C C C C C aO er (X:=fun _ _=>False)) ?_ (fun _ _ h=>False.elim h)) de.n)
      ·rintro _ _ ⟨rfl,I⟩
       refine bb.run C ?_;refine bb.done C ?_;refine af.ig I (c5 (l.length*6) (ae.mk f.op arg [] 0 f.n []).cells cs) (kb:=g) aO (b5.uG (.cons aH (.cons aH (.cons aR.empty (.cons aH (.cons aH (.one aR.empty)))))) (b5.refl _)) (fun I=>?_);refine gp ?_;refine af.cc [1,2,3,45,46] C I (σ:=Nat×h6×List ae) (fun q=>[(47,.int .i64 (q.1:Int))]) (fun q=>cd arg eN dI q.2.1 q.2.2) (fun q=>q.1≤f.kids.length∧k6 q.2.1 q.2.2∧dw arg (l++[ae.mk f.op arg [] 0 f.n []]) f.kids=dw arg q.2.2 (f.kids.drop q.1)∧q.2.2.length+ae.cM (f.kids.drop q.1)<1000000) (fun q=>f.kids.length-q.1) (0,(some (g,cap,c5 (l.length*6) (ae.mk f.op arg [] 0 f.n []).cells cs)),(l++[ae.mk f.op arg [] 0 f.n []])) ⟨g9 _,(wi cx cE dz C),rfl,by show ((l++[ae.mk f.op arg [] 0 f.n []])).length+ae.cM f.kids<_;(rw [f0,ad'];have:=b6;omega)⟩ (cy C) (by simp only [cd,cB,eV,gj,d5,d0,f0,i9,ai9];exact a') ?_;rintro ⟨j,fm,cp⟩ ⟨aK,ea,aG,cV⟩ I;simp only at aK ea aG cV I ⊢;unfold cd cB at I ⊢;simp only [d5,d0] at I ⊢;refine cl ?_;refine af.cond C (fun au=>?_) (fun aV=>?_);rotate_left
       ·have aV:j=f.kids.length:=by simp at aV;omega
        rw [fe ak,dw] at aG;rw [aG];refine ki ?_;exact Fin.bz I C aH (az.all _) ⟨rfl,fm,ea,rfl⟩
       have au:j<f.kids.length:=by simpa using au
       obtain ⟨y,ar,cf⟩:=b' (f:=ae.bh) au;have eJ:=d8 ar;have gl:=ae.hg eJ;rw [drop_cons ar,dw] at aG;rw [drop_cons ar,ae.cM] at cV;have cw:=a8 y ak fm cp ea ak;have n3:=k7 arg y cp;rw [ae.bJ] at cf cw;unfold cd cB at cw;simp only [d5,d0] at cw;unfold ae.cells at cf cw;refine jB I ?_;intro I;refine ab.e0 rfl rfl rfl rfl rfl rfl cw I (az.all _) ?_ (fun _ _ ⟨h,_⟩ _=>by cases h);rintro _ _ ⟨⟨⟩,hS,hT,rfl⟩ I;rw [d7] at I ⊢
       try unfold cd cB at I
       try unfold cd cB
       try simp only [d5,d0] at I
       try simp only [d5,d0]
       refine eF ?_;exact bA.mk (j+1,hS,fO arg cp y) I ⟨au,hT,aG,by show (fO arg cp y).length+ae.cM (f.kids.drop (j+1))<_;omega⟩ ct (by simp only [cd,cB,d5,d0];exact az.all _) kG
   | some z=>
    obtain ⟨g0,wj,uH⟩:=z;obtain ⟨eD,fh,gv⟩:=gd;simp only [gj,eV] at I;simp only [gj,eV] at my
    try simp only [gj,eV]
    refine ab.bL rfl rfl rfl rfl rfl my I a' ?_ (fun _ _ ⟨h,_⟩ _=>by cases h);rintro _ _ ⟨⟨⟩,rfl⟩ I;simp only [d5,d0] at I ⊢;cases jW:l.any (fun y=>decide (y.op=f.op)&&decide (y.n=f.n)) with
    | true=>
     rw [jW,f4 bc] at hR;rw [hR];refine bd ?_;refine af.cc [1,2,3,45,46] C I (σ:=Nat×h6×List ae) (fun q=>[(47,.int .i64 (q.1:Int))]) (fun q=>cd arg eN dI q.2.1 q.2.2) (fun q=>q.1≤f.kids.length∧k6 q.2.1 q.2.2∧dw arg l f.kids=dw arg q.2.2 (f.kids.drop q.1)∧q.2.2.length+ae.cM (f.kids.drop q.1)<1000000) (fun q=>f.kids.length-q.1) (0,(some (g0,wj,uH):h6),l) ⟨g9 _,⟨eD,fh,gv⟩,rfl,by show (l).length+ae.cM f.kids<_;(have:=b6;omega)⟩ (cy C) (by simp only [cd,cB,eV,gj,d5,d0,f0,i9,ai9];exact a') ?_;rintro ⟨j,fm,cp⟩ ⟨aK,ea,aG,cV⟩ I;simp only at aK ea aG cV I ⊢;unfold cd cB at I ⊢;simp only [d5,d0] at I ⊢;refine cl ?_;refine af.cond C (fun au=>?_) (fun aV=>?_);rotate_left
     ·have aV:j=f.kids.length:=by simp at aV;omega
      rw [fe ak,dw] at aG;rw [aG];refine ki ?_;exact Fin.bz I C aH (az.all _) ⟨rfl,fm,ea,rfl⟩
     have au:j<f.kids.length:=by simpa using au
     obtain ⟨y,ar,cf⟩:=b' (f:=ae.bh) au;have eJ:=d8 ar;have gl:=ae.hg eJ;rw [drop_cons ar,dw] at aG;rw [drop_cons ar,ae.cM] at cV;have cw:=a8 y ak fm cp ea ak;have n3:=k7 arg y cp;rw [ae.bJ] at cf cw;unfold cd cB at cw;simp only [d5,d0] at cw;unfold ae.cells at cf cw;refine jB I ?_;intro I;refine ab.e0 rfl rfl rfl rfl rfl rfl cw I (az.all _) ?_ (fun _ _ ⟨h,_⟩ _=>by cases h);rintro _ _ ⟨⟨⟩,hS,hT,rfl⟩ I;rw [d7] at I ⊢
     try unfold cd cB at I
     try unfold cd cB
     try simp only [d5,d0] at I
     try simp only [d5,d0]
     refine eF ?_;exact bA.mk (j+1,hS,fO arg cp y) I ⟨au,hT,aG,by show (fO arg cp y).length+ae.cM (f.kids.drop (j+1))<_;omega⟩ ct (by simp only [cd,cB,d5,d0];exact az.all _) kG
    | false=>
     rw [jW,f7 bc] at hR;rw [hR];refine dS ?_;refine af.oW ah mixed C (bb.run C ?_);refine bH.tp 8 ah trivial C C C C C C C C C C C C ?_;refine bb.run C ?_;refine bb.dY 0 ah I C C C C C C C C aO bZ ?_;refine bb.run C ?_;refine bH.oy 7 ah trivial C C C C C C C C C ?_;refine bb.run C ?_;refine bH.uF (ys:=yl) 9 ah I C C C C C C C C C dB C C C C aO eD fh C C C C (by show (l.length+1)*80≤_;omega) ak (fun _ _ _ _ _=>trivial) (fun g cap cs cx cE dz I=>?_);rw [gv] at dz;have cx:cs.length=cap*6:=cx;have er:ar4 (l.length*6+6) cs.length=true:=by rw [ay1,cx];have oB:l.length+1≤cap:=cE;omega
     try unfold cd cB at I
     try unfold cd cB
     try simp only [d5,d0,eV,gj] at I
     try simp only [d5,d0,eV,gj]
     refine bb.run C ?_;refine bH.lq 10 ah trivial (j:=l.length) C C C C C C C C C C C bc (by show _<_+1;omega) ?_;refine bb.run C ?_;refine bb.many C (de.c (fq.jP (i:=11) C C C (aX.cC ah I C C C C C C C aO er (X:=fun _ _=>False)) ?_ (fun _ _ h=>False.elim h)) (de.c (fq.jP (i:=12) C C C (aX.cC ah I C C C C C C C aO C (X:=fun _ _=>False)) ?_ (fun _ _ h=>False.elim h)) de.n))
     ·rintro _ _ ⟨rfl,I⟩
      refine bb.run C ?_;refine bb.many C (de.c (fq.jP (i:=12) C C C (aX.cC ah I C C C C C C C aO C (X:=fun _ _=>False)) ?_ (fun _ _ h=>False.elim h)) de.n)
      ·rintro _ _ ⟨rfl,I⟩
       refine bb.run C ?_;refine bb.done C ?_;refine af.ig I (c5 (l.length*6) (ae.mk f.op arg [] 0 f.n []).cells cs) (kb:=g) aO (b5.uG (.cons aH (.cons aH (.cons aR.empty (.cons aH (.cons aH (.one aR.empty)))))) (b5.refl _)) (fun I=>?_);refine gp ?_;refine af.cc [1,2,3,45,46] C I (σ:=Nat×h6×List ae) (fun q=>[(47,.int .i64 (q.1:Int))]) (fun q=>cd arg eN dI q.2.1 q.2.2) (fun q=>q.1≤f.kids.length∧k6 q.2.1 q.2.2∧dw arg (l++[ae.mk f.op arg [] 0 f.n []]) f.kids=dw arg q.2.2 (f.kids.drop q.1)∧q.2.2.length+ae.cM (f.kids.drop q.1)<1000000) (fun q=>f.kids.length-q.1) (0,(some (g,cap,c5 (l.length*6) (ae.mk f.op arg [] 0 f.n []).cells cs)),(l++[ae.mk f.op arg [] 0 f.n []])) ⟨g9 _,(wi cx cE dz C),rfl,by show ((l++[ae.mk f.op arg [] 0 f.n []])).length+ae.cM f.kids<_;(rw [f0,ad'];have:=b6;omega)⟩ (cy C) (by simp only [cd,cB,eV,gj,d5,d0,f0,i9,ai9];exact a') ?_;rintro ⟨j,fm,cp⟩ ⟨aK,ea,aG,cV⟩ I;simp only at aK ea aG cV I ⊢;unfold cd cB at I ⊢;simp only [d5,d0] at I ⊢;refine cl ?_;refine af.cond C (fun au=>?_) (fun aV=>?_);rotate_left
       ·have aV:j=f.kids.length:=by simp at aV;omega
        rw [fe ak,dw] at aG;rw [aG];refine ki ?_;exact Fin.bz I C aH (az.all _) ⟨rfl,fm,ea,rfl⟩
       have au:j<f.kids.length:=by simpa using au
       obtain ⟨y,ar,cf⟩:=b' (f:=ae.bh) au;have eJ:=d8 ar;have gl:=ae.hg eJ;rw [drop_cons ar,dw] at aG;rw [drop_cons ar,ae.cM] at cV;have cw:=a8 y ak fm cp ea ak;have n3:=k7 arg y cp;rw [ae.bJ] at cf cw;unfold cd cB at cw;simp only [d5,d0] at cw;unfold ae.cells at cf cw;refine jB I ?_;intro I;refine ab.e0 rfl rfl rfl rfl rfl rfl cw I (az.all _) ?_ (fun _ _ ⟨h,_⟩ _=>by cases h);rintro _ _ ⟨⟨⟩,hS,hT,rfl⟩ I;rw [d7] at I ⊢
       try unfold cd cB at I
       try unfold cd cB
       try simp only [d5,d0] at I
       try simp only [d5,d0]
       refine eF ?_;exact bA.mk (j+1,hS,fO arg cp y) I ⟨au,hT,aG,by show (fO arg cp y).length+ae.cM (f.kids.drop (j+1))<_;omega⟩ ct (by simp only [cd,cB,d5,d0];exact az.all _) kG
     ·rintro _ _ ⟨rfl,I⟩
      refine bb.run C ?_;refine bb.many C (de.c (fq.jP (i:=11) C C C (aX.cC ah I C C C C C C C aO er (X:=fun _ _=>False)) ?_ (fun _ _ h=>False.elim h)) de.n)
      ·rintro _ _ ⟨rfl,I⟩
       refine bb.run C ?_;refine bb.done C ?_;refine af.ig I (c5 (l.length*6) (ae.mk f.op arg [] 0 f.n []).cells cs) (kb:=g) aO (b5.uG (.cons aH (.cons aH (.cons aR.empty (.cons aH (.cons aH (.one aR.empty)))))) (b5.refl _)) (fun I=>?_);refine gp ?_;refine af.cc [1,2,3,45,46] C I (σ:=Nat×h6×List ae) (fun q=>[(47,.int .i64 (q.1:Int))]) (fun q=>cd arg eN dI q.2.1 q.2.2) (fun q=>q.1≤f.kids.length∧k6 q.2.1 q.2.2∧dw arg (l++[ae.mk f.op arg [] 0 f.n []]) f.kids=dw arg q.2.2 (f.kids.drop q.1)∧q.2.2.length+ae.cM (f.kids.drop q.1)<1000000) (fun q=>f.kids.length-q.1) (0,(some (g,cap,c5 (l.length*6) (ae.mk f.op arg [] 0 f.n []).cells cs)),(l++[ae.mk f.op arg [] 0 f.n []])) ⟨g9 _,(wi cx cE dz C),rfl,by show ((l++[ae.mk f.op arg [] 0 f.n []])).length+ae.cM f.kids<_;(rw [f0,ad'];have:=b6;omega)⟩ (cy C) (by simp only [cd,cB,eV,gj,d5,d0,f0,i9,ai9];exact a') ?_;rintro ⟨j,fm,cp⟩ ⟨aK,ea,aG,cV⟩ I;simp only at aK ea aG cV I ⊢;unfold cd cB at I ⊢;simp only [d5,d0] at I ⊢;refine cl ?_;refine af.cond C (fun au=>?_) (fun aV=>?_);rotate_left
       ·have aV:j=f.kids.length:=by simp at aV;omega
        rw [fe ak,dw] at aG;rw [aG];refine ki ?_;exact Fin.bz I C aH (az.all _) ⟨rfl,fm,ea,rfl⟩
       have au:j<f.kids.length:=by simpa using au
       obtain ⟨y,ar,cf⟩:=b' (f:=ae.bh) au;have eJ:=d8 ar;have gl:=ae.hg eJ;rw [drop_cons ar,dw] at aG;rw [drop_cons ar,ae.cM] at cV;have cw:=a8 y ak fm cp ea ak;have n3:=k7 arg y cp;rw [ae.bJ] at cf cw;unfold cd cB at cw;simp only [d5,d0] at cw;unfold ae.cells at cf cw;refine jB I ?_;intro I;refine ab.e0 rfl rfl rfl rfl rfl rfl cw I (az.all _) ?_ (fun _ _ ⟨h,_⟩ _=>by cases h);rintro _ _ ⟨⟨⟩,hS,hT,rfl⟩ I;rw [d7] at I ⊢
       try unfold cd cB at I
       try unfold cd cB
       try simp only [d5,d0] at I
       try simp only [d5,d0]
       refine eF ?_;exact bA.mk (j+1,hS,fO arg cp y) I ⟨au,hT,aG,by show (fO arg cp y).length+ae.cM (f.kids.drop (j+1))<_;omega⟩ ct (by simp only [cd,cB,d5,d0];exact az.all _) kG
  refine ab.eP 10 C (by simpa using bn) ?_;refine fB ?_;by_cases U:f.op=4
  ·refine ab.fM 15 C (by simpa using U) ?_
   refine fB ?_;by_cases ad:f.arg=arg;rotate_left
   ·refine ab.eP 21 C (by simpa using ad) ?_
    rw [kC,M2 ad,aa',an3,aa'] at hR;rw [f4 bc] at hR;rw [hR];refine bd ?_;refine af.cc [1,2,3,45,46] C I (σ:=Nat×h6×List ae) (fun q=>[(47,.int .i64 (q.1:Int))]) (fun q=>cd arg eN dI q.2.1 q.2.2) (fun q=>q.1≤f.kids.length∧k6 q.2.1 q.2.2∧dw arg l f.kids=dw arg q.2.2 (f.kids.drop q.1)∧q.2.2.length+ae.cM (f.kids.drop q.1)<1000000) (fun q=>f.kids.length-q.1) (0,iL,l) ⟨g9 _,gd,rfl,by show (l).length+ae.cM f.kids<_;(have:=b6;omega)⟩ (cy C) (by simp only [cd,cB,eV,gj,d5,d0,f0,i9,ai9];exact az.all _) ?_;rintro ⟨j,fm,cp⟩ ⟨aK,ea,aG,cV⟩ I;simp only at aK ea aG cV I ⊢;unfold cd cB at I ⊢;simp only [d5,d0] at I ⊢;refine cl ?_;refine af.cond C (fun au=>?_) (fun aV=>?_);rotate_left
    ·have aV:j=f.kids.length:=by simp at aV;omega
     rw [fe ak,dw] at aG;rw [aG];refine ki ?_;exact Fin.bz I C aH (az.all _) ⟨rfl,fm,ea,rfl⟩
    have au:j<f.kids.length:=by simpa using au
    obtain ⟨y,ar,cf⟩:=b' (f:=ae.bh) au;have eJ:=d8 ar;have gl:=ae.hg eJ;rw [drop_cons ar,dw] at aG;rw [drop_cons ar,ae.cM] at cV;have cw:=a8 y ak fm cp ea ak;have n3:=k7 arg y cp;rw [ae.bJ] at cf cw;unfold cd cB at cw;simp only [d5,d0] at cw;unfold ae.cells at cf cw;refine jB I ?_;intro I;refine ab.e0 rfl rfl rfl rfl rfl rfl cw I (az.all _) ?_ (fun _ _ ⟨h,_⟩ _=>by cases h);rintro _ _ ⟨⟨⟩,hS,hT,rfl⟩ I;rw [d7] at I ⊢
    try unfold cd cB at I
    try unfold cd cB
    try simp only [d5,d0] at I
    try simp only [d5,d0]
    refine eF ?_;exact bA.mk (j+1,hS,fO arg cp y) I ⟨au,hT,aG,by show (fO arg cp y).length+ae.cM (f.kids.drop (j+1))<_;omega⟩ ct (by simp only [cd,cB,d5,d0];exact az.all _) kG
   refine ab.fM 21 C (by simpa using ad) ?_;refine fB ?_;by_cases aj:f.path.length=0;rotate_left
   ·refine ab.eP 27 C (by simpa using aj) ?_
    rw [kC,M2 aj,an3,an3,aa'] at hR;rw [f4 bc] at hR;rw [hR];refine bd ?_;refine af.cc [1,2,3,45,46] C I (σ:=Nat×h6×List ae) (fun q=>[(47,.int .i64 (q.1:Int))]) (fun q=>cd arg eN dI q.2.1 q.2.2) (fun q=>q.1≤f.kids.length∧k6 q.2.1 q.2.2∧dw arg l f.kids=dw arg q.2.2 (f.kids.drop q.1)∧q.2.2.length+ae.cM (f.kids.drop q.1)<1000000) (fun q=>f.kids.length-q.1) (0,iL,l) ⟨g9 _,gd,rfl,by show (l).length+ae.cM f.kids<_;(have:=b6;omega)⟩ (cy C) (by simp only [cd,cB,eV,gj,d5,d0,f0,i9,ai9];exact az.all _) ?_;rintro ⟨j,fm,cp⟩ ⟨aK,ea,aG,cV⟩ I;simp only at aK ea aG cV I ⊢;unfold cd cB at I ⊢;simp only [d5,d0] at I ⊢;refine cl ?_;refine af.cond C (fun au=>?_) (fun aV=>?_);rotate_left
    ·have aV:j=f.kids.length:=by simp at aV;omega
     rw [fe ak,dw] at aG;rw [aG];refine ki ?_;exact Fin.bz I C aH (az.all _) ⟨rfl,fm,ea,rfl⟩
    have au:j<f.kids.length:=by simpa using au
    obtain ⟨y,ar,cf⟩:=b' (f:=ae.bh) au;have eJ:=d8 ar;have gl:=ae.hg eJ;rw [drop_cons ar,dw] at aG;rw [drop_cons ar,ae.cM] at cV;have cw:=a8 y ak fm cp ea ak;have n3:=k7 arg y cp;rw [ae.bJ] at cf cw;unfold cd cB at cw;simp only [d5,d0] at cw;unfold ae.cells at cf cw;refine jB I ?_;intro I;refine ab.e0 rfl rfl rfl rfl rfl rfl cw I (az.all _) ?_ (fun _ _ ⟨h,_⟩ _=>by cases h);rintro _ _ ⟨⟨⟩,hS,hT,rfl⟩ I;rw [d7] at I ⊢
    try unfold cd cB at I
    try unfold cd cB
    try simp only [d5,d0] at I
    try simp only [d5,d0]
    refine eF ?_;exact bA.mk (j+1,hS,fO arg cp y) I ⟨au,hT,aG,by show (fO arg cp y).length+ae.cM (f.kids.drop (j+1))<_;omega⟩ ct (by simp only [cd,cB,d5,d0];exact az.all _) kG
   refine ab.fM 27 C (by simpa using aj) ?_;rw [kC,i6 ad,i6 aj,i6 U,Bool.or_true] at hR;refine kh I ?_;intro I;cases iL with
   | none=>
    simp only [gj,eV] at I;simp only [gj,eV] at my
    try simp only [gj,eV]
    refine ab.bL rfl rfl rfl rfl rfl my I .nil ?_ (fun _ _ ⟨h,_⟩ _=>by cases h);rintro _ _ ⟨⟨⟩,rfl⟩ I;rw [d0] at I ⊢;cases jW:l.any (fun y=>decide (y.op=f.op)&&decide (y.n=f.n)) with
    | true=>
     rw [jW,f4 bc] at hR;rw [hR];refine bd ?_;refine af.cc [1,2,3,45,46] C I (σ:=Nat×h6×List ae) (fun q=>[(47,.int .i64 (q.1:Int))]) (fun q=>cd arg eN dI q.2.1 q.2.2) (fun q=>q.1≤f.kids.length∧k6 q.2.1 q.2.2∧dw arg l f.kids=dw arg q.2.2 (f.kids.drop q.1)∧q.2.2.length+ae.cM (f.kids.drop q.1)<1000000) (fun q=>f.kids.length-q.1) (0,(none:h6),l) ⟨g9 _,trivial,rfl,by show (l).length+ae.cM f.kids<_;(have:=b6;omega)⟩ (cy C) (by simp only [cd,cB,eV,gj,d5,d0,f0,i9,ai9];exact az.all _) ?_;rintro ⟨j,fm,cp⟩ ⟨aK,ea,aG,cV⟩ I;simp only at aK ea aG cV I ⊢;unfold cd cB at I ⊢;simp only [d5,d0] at I ⊢;refine cl ?_;refine af.cond C (fun au=>?_) (fun aV=>?_);rotate_left
     ·have aV:j=f.kids.length:=by simp at aV;omega
      rw [fe ak,dw] at aG;rw [aG];refine ki ?_;exact Fin.bz I C aH (az.all _) ⟨rfl,fm,ea,rfl⟩
     have au:j<f.kids.length:=by simpa using au
     obtain ⟨y,ar,cf⟩:=b' (f:=ae.bh) au;have eJ:=d8 ar;have gl:=ae.hg eJ;rw [drop_cons ar,dw] at aG;rw [drop_cons ar,ae.cM] at cV;have cw:=a8 y ak fm cp ea ak;have n3:=k7 arg y cp;rw [ae.bJ] at cf cw;unfold cd cB at cw;simp only [d5,d0] at cw;unfold ae.cells at cf cw;refine jB I ?_;intro I;refine ab.e0 rfl rfl rfl rfl rfl rfl cw I (az.all _) ?_ (fun _ _ ⟨h,_⟩ _=>by cases h);rintro _ _ ⟨⟨⟩,hS,hT,rfl⟩ I;rw [d7] at I ⊢
     try unfold cd cB at I
     try unfold cd cB
     try simp only [d5,d0] at I
     try simp only [d5,d0]
     refine eF ?_;exact bA.mk (j+1,hS,fO arg cp y) I ⟨au,hT,aG,by show (fO arg cp y).length+ae.cM (f.kids.drop (j+1))<_;omega⟩ ct (by simp only [cd,cB,d5,d0];exact az.all _) kG
    | false=>
     rw [jW,f7 bc] at hR;rw [hR];refine dS ?_;refine af.oW ah mixed C (bb.run C ?_);refine bH.tp 8 ah trivial C C C C C C C C C C C C ?_;refine bb.run C ?_;refine bb.dY 0 ah I C C C C C C C C aO bZ ?_;refine bb.run C ?_;refine bH.Fv (xss:=l.map ae.cells) (yss:=[yl]) 9 ah I C C C C C C C C C dB C C C (by rw [← JW];rfl) C (wh l) C C Ro dh (by rw [f6];show (_+1)*80≤_;omega) (by rw [f6];show _+1≤_;omega) (fun _ _ _ _ _=>trivial) (fun g cap cs cx cE dz I=>?_);rw [f6] at cE dz ⊢;have cx:cs.length=cap*6:=cx;have cE:l.length+1≤cap:=cE;have dz:cs.take ((l.length+1)*6)=(l.map ae.cells).flatten++yl:=dz.trans bc;have er:ar4 (l.length*6+6) cs.length=true:=by rw [ay1,cx];have oB:l.length+1≤cap:=cE;omega
     try unfold cd cB at I
     try unfold cd cB
     try simp only [d5,d0,eV,gj] at I
     try simp only [d5,d0,eV,gj]
     refine bb.run C ?_;refine bH.lq 10 ah trivial (j:=l.length) C C C C C C C C C C C bc (by show _<_+1;omega) ?_;refine bb.run C ?_;refine bb.many C (de.c (fq.jP (i:=11) C C C (aX.cC ah I C C C C C C C aO er (X:=fun _ _=>False)) ?_ (fun _ _ h=>False.elim h)) (de.c (fq.jP (i:=12) C C C (aX.cC ah I C C C C C C C aO C (X:=fun _ _=>False)) ?_ (fun _ _ h=>False.elim h)) de.n))
     ·rintro _ _ ⟨rfl,I⟩
      refine bb.run C ?_;refine bb.many C (de.c (fq.jP (i:=12) C C C (aX.cC ah I C C C C C C C aO C (X:=fun _ _=>False)) ?_ (fun _ _ h=>False.elim h)) de.n)
      ·rintro _ _ ⟨rfl,I⟩
       refine bb.run C ?_;refine bb.done C ?_;refine af.ig I (c5 (l.length*6) (ae.mk f.op arg [] 0 f.n []).cells cs) (kb:=g) aO (b5.uG (.cons aH (.cons aH (.cons aR.empty (.cons aH (.cons aH (.one aR.empty)))))) (b5.refl _)) (fun I=>?_);refine gp ?_;refine af.cc [1,2,3,45,46] C I (σ:=Nat×h6×List ae) (fun q=>[(47,.int .i64 (q.1:Int))]) (fun q=>cd arg eN dI q.2.1 q.2.2) (fun q=>q.1≤f.kids.length∧k6 q.2.1 q.2.2∧dw arg (l++[ae.mk f.op arg [] 0 f.n []]) f.kids=dw arg q.2.2 (f.kids.drop q.1)∧q.2.2.length+ae.cM (f.kids.drop q.1)<1000000) (fun q=>f.kids.length-q.1) (0,(some (g,cap,c5 (l.length*6) (ae.mk f.op arg [] 0 f.n []).cells cs)),(l++[ae.mk f.op arg [] 0 f.n []])) ⟨g9 _,(wi cx cE dz C),rfl,by show ((l++[ae.mk f.op arg [] 0 f.n []])).length+ae.cM f.kids<_;(rw [f0,ad'];have:=b6;omega)⟩ (cy C) (by simp only [cd,cB,eV,gj,d5,d0,f0,i9,ai9];exact a') ?_;rintro ⟨j,fm,cp⟩ ⟨aK,ea,aG,cV⟩ I;simp only at aK ea aG cV I ⊢;unfold cd cB at I ⊢;simp only [d5,d0] at I ⊢;refine cl ?_;refine af.cond C (fun au=>?_) (fun aV=>?_);rotate_left
       ·have aV:j=f.kids.length:=by simp at aV;omega
        rw [fe ak,dw] at aG;rw [aG];refine ki ?_;exact Fin.bz I C aH (az.all _) ⟨rfl,fm,ea,rfl⟩
       have au:j<f.kids.length:=by simpa using au
       obtain ⟨y,ar,cf⟩:=b' (f:=ae.bh) au;have eJ:=d8 ar;have gl:=ae.hg eJ;rw [drop_cons ar,dw] at aG;rw [drop_cons ar,ae.cM] at cV;have cw:=a8 y ak fm cp ea ak;have n3:=k7 arg y cp;rw [ae.bJ] at cf cw;unfold cd cB at cw;simp only [d5,d0] at cw;unfold ae.cells at cf cw;refine jB I ?_;intro I;refine ab.e0 rfl rfl rfl rfl rfl rfl cw I (az.all _) ?_ (fun _ _ ⟨h,_⟩ _=>by cases h);rintro _ _ ⟨⟨⟩,hS,hT,rfl⟩ I;rw [d7] at I ⊢
       try unfold cd cB at I
       try unfold cd cB
       try simp only [d5,d0] at I
       try simp only [d5,d0]
       refine eF ?_;exact bA.mk (j+1,hS,fO arg cp y) I ⟨au,hT,aG,by show (fO arg cp y).length+ae.cM (f.kids.drop (j+1))<_;omega⟩ ct (by simp only [cd,cB,d5,d0];exact az.all _) kG
     ·rintro _ _ ⟨rfl,I⟩
      refine bb.run C ?_;refine bb.many C (de.c (fq.jP (i:=11) C C C (aX.cC ah I C C C C C C C aO er (X:=fun _ _=>False)) ?_ (fun _ _ h=>False.elim h)) de.n)
      ·rintro _ _ ⟨rfl,I⟩
       refine bb.run C ?_;refine bb.done C ?_;refine af.ig I (c5 (l.length*6) (ae.mk f.op arg [] 0 f.n []).cells cs) (kb:=g) aO (b5.uG (.cons aH (.cons aH (.cons aR.empty (.cons aH (.cons aH (.one aR.empty)))))) (b5.refl _)) (fun I=>?_);refine gp ?_;refine af.cc [1,2,3,45,46] C I (σ:=Nat×h6×List ae) (fun q=>[(47,.int .i64 (q.1:Int))]) (fun q=>cd arg eN dI q.2.1 q.2.2) (fun q=>q.1≤f.kids.length∧k6 q.2.1 q.2.2∧dw arg (l++[ae.mk f.op arg [] 0 f.n []]) f.kids=dw arg q.2.2 (f.kids.drop q.1)∧q.2.2.length+ae.cM (f.kids.drop q.1)<1000000) (fun q=>f.kids.length-q.1) (0,(some (g,cap,c5 (l.length*6) (ae.mk f.op arg [] 0 f.n []).cells cs)),(l++[ae.mk f.op arg [] 0 f.n []])) ⟨g9 _,(wi cx cE dz C),rfl,by show ((l++[ae.mk f.op arg [] 0 f.n []])).length+ae.cM f.kids<_;(rw [f0,ad'];have:=b6;omega)⟩ (cy C) (by simp only [cd,cB,eV,gj,d5,d0,f0,i9,ai9];exact a') ?_;rintro ⟨j,fm,cp⟩ ⟨aK,ea,aG,cV⟩ I;simp only at aK ea aG cV I ⊢;unfold cd cB at I ⊢;simp only [d5,d0] at I ⊢;refine cl ?_;refine af.cond C (fun au=>?_) (fun aV=>?_);rotate_left
       ·have aV:j=f.kids.length:=by simp at aV;omega
        rw [fe ak,dw] at aG;rw [aG];refine ki ?_;exact Fin.bz I C aH (az.all _) ⟨rfl,fm,ea,rfl⟩
       have au:j<f.kids.length:=by simpa using au
       obtain ⟨y,ar,cf⟩:=b' (f:=ae.bh) au;have eJ:=d8 ar;have gl:=ae.hg eJ;rw [drop_cons ar,dw] at aG;rw [drop_cons ar,ae.cM] at cV;have cw:=a8 y ak fm cp ea ak;have n3:=k7 arg y cp;rw [ae.bJ] at cf cw;unfold cd cB at cw;simp only [d5,d0] at cw;unfold ae.cells at cf cw;refine jB I ?_;intro I;refine ab.e0 rfl rfl rfl rfl rfl rfl cw I (az.all _) ?_ (fun _ _ ⟨h,_⟩ _=>by cases h);rintro _ _ ⟨⟨⟩,hS,hT,rfl⟩ I;rw [d7] at I ⊢
       try unfold cd cB at I
       try unfold cd cB
       try simp only [d5,d0] at I
       try simp only [d5,d0]
       refine eF ?_;exact bA.mk (j+1,hS,fO arg cp y) I ⟨au,hT,aG,by show (fO arg cp y).length+ae.cM (f.kids.drop (j+1))<_;omega⟩ ct (by simp only [cd,cB,d5,d0];exact az.all _) kG
   | some z=>
    obtain ⟨g0,wj,uH⟩:=z;obtain ⟨eD,fh,gv⟩:=gd;simp only [gj,eV] at I;simp only [gj,eV] at my
    try simp only [gj,eV]
    refine ab.bL rfl rfl rfl rfl rfl my I a' ?_ (fun _ _ ⟨h,_⟩ _=>by cases h);rintro _ _ ⟨⟨⟩,rfl⟩ I;simp only [d5,d0] at I ⊢;cases jW:l.any (fun y=>decide (y.op=f.op)&&decide (y.n=f.n)) with
    | true=>
     rw [jW,f4 bc] at hR;rw [hR];refine bd ?_;refine af.cc [1,2,3,45,46] C I (σ:=Nat×h6×List ae) (fun q=>[(47,.int .i64 (q.1:Int))]) (fun q=>cd arg eN dI q.2.1 q.2.2) (fun q=>q.1≤f.kids.length∧k6 q.2.1 q.2.2∧dw arg l f.kids=dw arg q.2.2 (f.kids.drop q.1)∧q.2.2.length+ae.cM (f.kids.drop q.1)<1000000) (fun q=>f.kids.length-q.1) (0,(some (g0,wj,uH):h6),l) ⟨g9 _,⟨eD,fh,gv⟩,rfl,by show (l).length+ae.cM f.kids<_;(have:=b6;omega)⟩ (cy C) (by simp only [cd,cB,eV,gj,d5,d0,f0,i9,ai9];exact a') ?_;rintro ⟨j,fm,cp⟩ ⟨aK,ea,aG,cV⟩ I;simp only at aK ea aG cV I ⊢;unfold cd cB at I ⊢;simp only [d5,d0] at I ⊢;refine cl ?_;refine af.cond C (fun au=>?_) (fun aV=>?_);rotate_left
     ·have aV:j=f.kids.length:=by simp at aV;omega
      rw [fe ak,dw] at aG;rw [aG];refine ki ?_;exact Fin.bz I C aH (az.all _) ⟨rfl,fm,ea,rfl⟩
     have au:j<f.kids.length:=by simpa using au
     obtain ⟨y,ar,cf⟩:=b' (f:=ae.bh) au;have eJ:=d8 ar;have gl:=ae.hg eJ;rw [drop_cons ar,dw] at aG;rw [drop_cons ar,ae.cM] at cV;have cw:=a8 y ak fm cp ea ak;have n3:=k7 arg y cp;rw [ae.bJ] at cf cw;unfold cd cB at cw;simp only [d5,d0] at cw;unfold ae.cells at cf cw;refine jB I ?_;intro I;refine ab.e0 rfl rfl rfl rfl rfl rfl cw I (az.all _) ?_ (fun _ _ ⟨h,_⟩ _=>by cases h);rintro _ _ ⟨⟨⟩,hS,hT,rfl⟩ I;rw [d7] at I ⊢
     try unfold cd cB at I
     try unfold cd cB
     try simp only [d5,d0] at I
     try simp only [d5,d0]
     refine eF ?_;exact bA.mk (j+1,hS,fO arg cp y) I ⟨au,hT,aG,by show (fO arg cp y).length+ae.cM (f.kids.drop (j+1))<_;omega⟩ ct (by simp only [cd,cB,d5,d0];exact az.all _) kG
    | false=>
     rw [jW,f7 bc] at hR;rw [hR];refine dS ?_;refine af.oW ah mixed C (bb.run C ?_);refine bH.tp 8 ah trivial C C C C C C C C C C C C ?_;refine bb.run C ?_;refine bb.dY 0 ah I C C C C C C C C aO bZ ?_;refine bb.run C ?_;refine bH.oy 7 ah trivial C C C C C C C C C ?_;refine bb.run C ?_;refine bH.uF (ys:=yl) 9 ah I C C C C C C C C C dB C C C C aO eD fh C C C C (by show (l.length+1)*80≤_;omega) ak (fun _ _ _ _ _=>trivial) (fun g cap cs cx cE dz I=>?_);rw [gv] at dz;have cx:cs.length=cap*6:=cx;have er:ar4 (l.length*6+6) cs.length=true:=by rw [ay1,cx];have oB:l.length+1≤cap:=cE;omega
     try unfold cd cB at I
     try unfold cd cB
     try simp only [d5,d0,eV,gj] at I
     try simp only [d5,d0,eV,gj]
     refine bb.run C ?_;refine bH.lq 10 ah trivial (j:=l.length) C C C C C C C C C C C bc (by show _<_+1;omega) ?_;refine bb.run C ?_;refine bb.many C (de.c (fq.jP (i:=11) C C C (aX.cC ah I C C C C C C C aO er (X:=fun _ _=>False)) ?_ (fun _ _ h=>False.elim h)) (de.c (fq.jP (i:=12) C C C (aX.cC ah I C C C C C C C aO C (X:=fun _ _=>False)) ?_ (fun _ _ h=>False.elim h)) de.n))
     ·rintro _ _ ⟨rfl,I⟩
      refine bb.run C ?_;refine bb.many C (de.c (fq.jP (i:=12) C C C (aX.cC ah I C C C C C C C aO C (X:=fun _ _=>False)) ?_ (fun _ _ h=>False.elim h)) de.n)
      ·rintro _ _ ⟨rfl,I⟩
       refine bb.run C ?_;refine bb.done C ?_;refine af.ig I (c5 (l.length*6) (ae.mk f.op arg [] 0 f.n []).cells cs) (kb:=g) aO (b5.uG (.cons aH (.cons aH (.cons aR.empty (.cons aH (.cons aH (.one aR.empty)))))) (b5.refl _)) (fun I=>?_);refine gp ?_;refine af.cc [1,2,3,45,46] C I (σ:=Nat×h6×List ae) (fun q=>[(47,.int .i64 (q.1:Int))]) (fun q=>cd arg eN dI q.2.1 q.2.2) (fun q=>q.1≤f.kids.length∧k6 q.2.1 q.2.2∧dw arg (l++[ae.mk f.op arg [] 0 f.n []]) f.kids=dw arg q.2.2 (f.kids.drop q.1)∧q.2.2.length+ae.cM (f.kids.drop q.1)<1000000) (fun q=>f.kids.length-q.1) (0,(some (g,cap,c5 (l.length*6) (ae.mk f.op arg [] 0 f.n []).cells cs)),(l++[ae.mk f.op arg [] 0 f.n []])) ⟨g9 _,(wi cx cE dz C),rfl,by show ((l++[ae.mk f.op arg [] 0 f.n []])).length+ae.cM f.kids<_;(rw [f0,ad'];have:=b6;omega)⟩ (cy C) (by simp only [cd,cB,eV,gj,d5,d0,f0,i9,ai9];exact a') ?_;rintro ⟨j,fm,cp⟩ ⟨aK,ea,aG,cV⟩ I;simp only at aK ea aG cV I ⊢;unfold cd cB at I ⊢;simp only [d5,d0] at I ⊢;refine cl ?_;refine af.cond C (fun au=>?_) (fun aV=>?_);rotate_left
       ·have aV:j=f.kids.length:=by simp at aV;omega
        rw [fe ak,dw] at aG;rw [aG];refine ki ?_;exact Fin.bz I C aH (az.all _) ⟨rfl,fm,ea,rfl⟩
       have au:j<f.kids.length:=by simpa using au
       obtain ⟨y,ar,cf⟩:=b' (f:=ae.bh) au;have eJ:=d8 ar;have gl:=ae.hg eJ;rw [drop_cons ar,dw] at aG;rw [drop_cons ar,ae.cM] at cV;have cw:=a8 y ak fm cp ea ak;have n3:=k7 arg y cp;rw [ae.bJ] at cf cw;unfold cd cB at cw;simp only [d5,d0] at cw;unfold ae.cells at cf cw;refine jB I ?_;intro I;refine ab.e0 rfl rfl rfl rfl rfl rfl cw I (az.all _) ?_ (fun _ _ ⟨h,_⟩ _=>by cases h);rintro _ _ ⟨⟨⟩,hS,hT,rfl⟩ I;rw [d7] at I ⊢
       try unfold cd cB at I
       try unfold cd cB
       try simp only [d5,d0] at I
       try simp only [d5,d0]
       refine eF ?_;exact bA.mk (j+1,hS,fO arg cp y) I ⟨au,hT,aG,by show (fO arg cp y).length+ae.cM (f.kids.drop (j+1))<_;omega⟩ ct (by simp only [cd,cB,d5,d0];exact az.all _) kG
     ·rintro _ _ ⟨rfl,I⟩
      refine bb.run C ?_;refine bb.many C (de.c (fq.jP (i:=11) C C C (aX.cC ah I C C C C C C C aO er (X:=fun _ _=>False)) ?_ (fun _ _ h=>False.elim h)) de.n)
      ·rintro _ _ ⟨rfl,I⟩
       refine bb.run C ?_;refine bb.done C ?_;refine af.ig I (c5 (l.length*6) (ae.mk f.op arg [] 0 f.n []).cells cs) (kb:=g) aO (b5.uG (.cons aH (.cons aH (.cons aR.empty (.cons aH (.cons aH (.one aR.empty)))))) (b5.refl _)) (fun I=>?_);refine gp ?_;refine af.cc [1,2,3,45,46] C I (σ:=Nat×h6×List ae) (fun q=>[(47,.int .i64 (q.1:Int))]) (fun q=>cd arg eN dI q.2.1 q.2.2) (fun q=>q.1≤f.kids.length∧k6 q.2.1 q.2.2∧dw arg (l++[ae.mk f.op arg [] 0 f.n []]) f.kids=dw arg q.2.2 (f.kids.drop q.1)∧q.2.2.length+ae.cM (f.kids.drop q.1)<1000000) (fun q=>f.kids.length-q.1) (0,(some (g,cap,c5 (l.length*6) (ae.mk f.op arg [] 0 f.n []).cells cs)),(l++[ae.mk f.op arg [] 0 f.n []])) ⟨g9 _,(wi cx cE dz C),rfl,by show ((l++[ae.mk f.op arg [] 0 f.n []])).length+ae.cM f.kids<_;(rw [f0,ad'];have:=b6;omega)⟩ (cy C) (by simp only [cd,cB,eV,gj,d5,d0,f0,i9,ai9];exact a') ?_;rintro ⟨j,fm,cp⟩ ⟨aK,ea,aG,cV⟩ I;simp only at aK ea aG cV I ⊢;unfold cd cB at I ⊢;simp only [d5,d0] at I ⊢;refine cl ?_;refine af.cond C (fun au=>?_) (fun aV=>?_);rotate_left
       ·have aV:j=f.kids.length:=by simp at aV;omega
        rw [fe ak,dw] at aG;rw [aG];refine ki ?_;exact Fin.bz I C aH (az.all _) ⟨rfl,fm,ea,rfl⟩
       have au:j<f.kids.length:=by simpa using au
       obtain ⟨y,ar,cf⟩:=b' (f:=ae.bh) au;have eJ:=d8 ar;have gl:=ae.hg eJ;rw [drop_cons ar,dw] at aG;rw [drop_cons ar,ae.cM] at cV;have cw:=a8 y ak fm cp ea ak;have n3:=k7 arg y cp;rw [ae.bJ] at cf cw;unfold cd cB at cw;simp only [d5,d0] at cw;unfold ae.cells at cf cw;refine jB I ?_;intro I;refine ab.e0 rfl rfl rfl rfl rfl rfl cw I (az.all _) ?_ (fun _ _ ⟨h,_⟩ _=>by cases h);rintro _ _ ⟨⟨⟩,hS,hT,rfl⟩ I;rw [d7] at I ⊢
       try unfold cd cB at I
       try unfold cd cB
       try simp only [d5,d0] at I
       try simp only [d5,d0]
       refine eF ?_;exact bA.mk (j+1,hS,fO arg cp y) I ⟨au,hT,aG,by show (fO arg cp y).length+ae.cM (f.kids.drop (j+1))<_;omega⟩ ct (by simp only [cd,cB,d5,d0];exact az.all _) kG
  refine ab.eP 15 C (by simpa using U) ?_;rw [kC,M2 bn,M2 U,ak4,aa',aa'] at hR;rw [f4 bc] at hR;rw [hR];refine bd ?_;refine af.cc [1,2,3,45,46] C I (σ:=Nat×h6×List ae) (fun q=>[(47,.int .i64 (q.1:Int))]) (fun q=>cd arg eN dI q.2.1 q.2.2) (fun q=>q.1≤f.kids.length∧k6 q.2.1 q.2.2∧dw arg l f.kids=dw arg q.2.2 (f.kids.drop q.1)∧q.2.2.length+ae.cM (f.kids.drop q.1)<1000000) (fun q=>f.kids.length-q.1) (0,iL,l) ⟨g9 _,gd,rfl,by show (l).length+ae.cM f.kids<_;(have:=b6;omega)⟩ (cy C) (by simp only [cd,cB,eV,gj,d5,d0,f0,i9,ai9];exact az.all _) ?_;rintro ⟨j,fm,cp⟩ ⟨aK,ea,aG,cV⟩ I;simp only at aK ea aG cV I ⊢;unfold cd cB at I ⊢;simp only [d5,d0] at I ⊢;refine cl ?_;refine af.cond C (fun au=>?_) (fun aV=>?_);rotate_left
  ·have aV:j=f.kids.length:=by simp at aV;omega
   rw [fe ak,dw] at aG;rw [aG];refine ki ?_;exact Fin.bz I C aH (az.all _) ⟨rfl,fm,ea,rfl⟩
  have au:j<f.kids.length:=by simpa using au
  obtain ⟨y,ar,cf⟩:=b' (f:=ae.bh) au;have eJ:=d8 ar;have gl:=ae.hg eJ;rw [drop_cons ar,dw] at aG;rw [drop_cons ar,ae.cM] at cV;have cw:=a8 y ak fm cp ea ak;have n3:=k7 arg y cp;rw [ae.bJ] at cf cw;unfold cd cB at cw;simp only [d5,d0] at cw;unfold ae.cells at cf cw;refine jB I ?_;intro I;refine ab.e0 rfl rfl rfl rfl rfl rfl cw I (az.all _) ?_ (fun _ _ ⟨h,_⟩ _=>by cases h);rintro _ _ ⟨⟨⟩,hS,hT,rfl⟩ I;rw [d7] at I ⊢
  try unfold cd cB at I
  try unfold cd cB
  try simp only [d5,d0] at I
  try simp only [d5,d0]
  refine eF ?_;exact bA.mk (j+1,hS,fO arg cp y) I ⟨au,hT,aG,by show (fO arg cp y).length+ae.cM (f.kids.drop (j+1))<_;omega⟩ ct (by simp only [cd,cB,d5,d0];exact az.all _) kG
def wk (arg:Int) (x:ae):Prop:=x=fl arg 1∨x=fl arg 2∨∃ o n,(o=3∨o=4)∧lr n=true∧x = .mk o arg [] 0 n []
theorem Fw {w:bo} {f:ae} (aZ:dU w f=true) {arg:Int} {x:ae} (h:x∈td f arg):wk arg x:=by
 unfold td at h;rcases ab'.1 h with h|h
 ·rcases ai1.1 h with h|h
  ·exact .inl h
  ·exact .inr (.inl (i7.1 h))
 ·obtain ⟨U,ad⟩:=aj1.1 h
  have gZ:=(IK (w:=w) 0 (kF f) [] (fun _ h=>by cases h) (BS f w aZ)).1 x U;have he:=Px gZ ad;obtain ⟨ai,-,-⟩:=zE ad;refine .inr (.inr ⟨x.op,x.n,ai,?_,he.symm⟩);obtain ⟨g1,g2⟩:=gZ;rw [p0,d6] at g1;have av:=g1.1;simp only [fr,g2,ak2,d6,f5,ai4] at av;have:=av.2.2.2.2.2.2.2;rw [f4 ak] at this;simp only [d6] at this;exact this.2
theorem Rr {w:bo} {arg:Int} (bn:0≤arg) (aj:arg<3) {x:ae} (h:wk arg x):dU w x=true∧x.c7=true∧x.arg=arg∧x.path=[]:=by
 have Cq:∀ c:Int,0≤c→c<3→dU w (fl arg c)=true:=fun c U ad=>by
  unfold fl;rw [dU,hK,as0];have e:fr w (.mk 2 arg [] c 0 [])=(decide (arg≥0)&&(decide (arg<3)&&(decide (c≥0)&&decide (c<3+(w.ps.length:Int))))):=by
   unfold fr;simp only [ae.op,ae.kids,ae.c7,ae.arg,ae.path,ae.cls,ae.n];simp [qM];rfl
  rw [e,i6 bn,i6 aj,i6 U,i6 ak];rfl
 rcases h with rfl|rfl|⟨o,n,ai,av,rfl⟩
 ·exact ⟨Cq 1 ak ak,rfl,rfl,rfl⟩
 ·exact ⟨Cq 2 ak ak,rfl,rfl,rfl⟩
 ·have e:∀ o:Int,o=3∨o=4→fr w (.mk o arg [] 0 n [])=(decide (arg≥0)&&(decide (arg<3)&&lr n))∧(ae.mk o arg [] 0 n []).c7=true:=fun o ai=>by
   rcases ai with rfl|rfl
   ·refine ⟨?_,rfl⟩
    unfold fr;simp only [ae.op,ae.kids,ae.c7,ae.arg,ae.path,ae.cls,ae.n];simp [qM];rfl
   ·refine ⟨?_,rfl⟩
    unfold fr;simp only [ae.op,ae.kids,ae.c7,ae.arg,ae.path,ae.cls,ae.n];simp [qM];rfl
  obtain ⟨bT,bI⟩:=e o ai;refine ⟨?_,bI,rfl,rfl⟩;rw [dU,hK,as0,bT,i6 bn,i6 aj,av];rfl
theorem aca (fv:ag) (q:Int→Bool) (xs:List Int) (aE:xs.length<bK) (h:∀ x∈xs,cY d4 fv [ba x] (.bool (q x))):aY d4 387 [.aF 1 (xs.map ba) .a7,fv] (.aF 1 ((xs.filter q).map ba) .a7):=by
 have aq:=bx;refine aY.bj ah Tryz.func387 C C fun s I=>?_
 refine gp ?_;refine af.hv I 3 1 0 fun I=>?_
 refine af.cc [0,1,8,9] C I (σ:=Nat×List Int×bM) (fun p=>[(10,.int .i64 (p.1:Int)),(5,.aF 1 (p.2.1.map ba) p.2.2)]) (fun p=>[(p.2.2,.row 3 1 p.2.1.length)]) (fun p=>p.1≤xs.length∧p.2.1.length≤p.1∧xs.filter q=p.2.1++(xs.drop p.1).filter q) (fun p=>xs.length-p.1) (0,[],.nil)
  ⟨g9 _,t7 _,rfl⟩ ⟨⟨_,rfl,aH⟩,⟨_,rfl,aR.nil gF⟩,trivial⟩ a' ?_
 rintro ⟨j,out,hj⟩ ⟨aK,gq,aG⟩ I;simp only at aK gq aG I ⊢;refine cl ?_;refine af.cond C (fun au=>?_) (fun aV=>?_);rotate_left
 ·have aV:j=xs.length:=by simp at aV;omega
  rw [fe ak,List.filter_nil,d7] at aG;rw [aG];have cm:=vC (out.map ba) hj;refine dS ?_;exact Fin.cZ I C aR.a7
 have au:j<xs.length:=by simpa using au
 obtain ⟨x,aa,bY⟩:=b' (f:=ba) au;have aD:=h x (d8 aa);rw [drop_cons aa,an1] at aG
 try rw [ba] at aD bY
 refine dS ?_;cases bf:q x with
 | true=>
  rw [bf] at aG aD;rw [f7 C] at aG;refine bd ?_;refine ab.gn ah I C C C C C C C dB C C C C C C C C aO h' lP ak (fun b1 I=>?_);refine iQ ?_;exact bA.mk (j+1,out++[x],.own b1) I ⟨au,by simp;omega,by rw [aG];simp⟩ (by repeat (first|exact trivial|refine ⟨⟨_,rfl,aH⟩,?_⟩|refine ⟨⟨_,rfl,aR.of_eq Ii⟩,?_⟩)) (by show az _ [(_,.row _ _ (out++[x]).length)] _;rw [f0];exact a') mq
 | false=>
  rw [bf] at aG aD;rw [f4 bc] at aG;refine bd ?_;exact bA.mk (j+1,out,hj) I ⟨au,by show out.length≤j+1;omega,aG⟩ ct a' mq
def lE (p:aU) (mb:Nat):List ag:=cj p++(fL (bU p)++[.map mb])
def Fx (p:aU) (c0:List ji) (n:Int) (args:List (Int×Int)):Bool:=vS p n&&(decide ((args.length:Int)=p.dX.getD n.toNat 0)&&DZ (bU p) c0 args)
theorem acb (p:aU) (aB:e3 p) (bu:cS p=true):bs d4 266 [cQ p] [] (fun o K=>∃ mb,o = .ret (.bl (lE p mb) 0)∧K=[(.own mb,.map [])]):=by
 have hw:=Ff p aB;rw [bu,f7 C,f7 C] at hw;refine bs.bj ah Tryz.func266 C C fun s I=>?_
 unfold cQ cj lE jD fL at *;refine ej ?_;refine ab.ou I C C C C (fun mb I=>?_);refine eB ?_;exact Fin.bz I C aH (az.all _) ⟨mb,rfl,rfl⟩
section
variable {P:Program} {Γ:cz} {N:Nat} {env:Env} {s:ao} {ops:Array Oper} {rest:List Oper} {l:List Oper} {o:Oper} {d:Nat} {Q:b8→Env→ao→Prop} {L R:a6}
theorem dx.ym {B:fP} {ro:Option Nat} {a:Act} {w:World} {p:bV} (h:dx N B ro env s a w p) {kb b n cap i:Nat} {T T':TypeId} {cells cs:List ag} (cN:kb≠b) (jG:s kb=some (.box T cells)) (aw:cells[i]? = some (dv b n cap)) (al:s b=some (.box T' cs)) (cm:n≤cs.length) (av:n≤cap) (hm:n≤9223372036854775807)
  (j2:(cs.take n).all eZ=true):∃ bg,dx N B ro env ((s.del b).set kb (.box T (cells.set i (.aF 1 (cs.take n) .a7)))) a w bg∧c2 w p w bg∧Kept s ((s.del b).set kb (.box T (cells.set i (.aF 1 (cs.take n) .a7)))) w p w bg:=by
 obtain ⟨vs,U,ad,aj⟩:=h.wf.obj _ _ al;have au:b<w.heap.size:=(Array.getElem?_eq_some_iff.1 U).1;have hle:c2 w p w (p.dT b True):=⟨rfl,rfl,rfl,t7 _,fun _ _ h => .inl h,fun _ _ _=>rfl,fun _ _ h=>h⟩;have dt:∀ v,Rel w p v (dv b n cap)→Rel w (p.dT b True) v (.aF 1 (cs.take n) .a7):=by
  intro v aC;cases aC;have iG:=ad.take n;have sQ:=oQ iG j2;have gd:=qL sQ;refine .aF b 0 n cap 1 (vs.toList.take n) (cs.take n) .a7 bc wE ?_ (iG.mono hle) (fun v aD=>by rw [xm (sQ v aD)];rfl) hm av (fun h=>by cases h) (fun b h=>by cases h);rw [gd];intro i v aQ;refine ⟨.inr ⟨rfl,trivial⟩,?_⟩;rw [aj8,jN U];rw [List.getElem?_take] at aQ;split at aQ
  ·simpa using aQ
  ·cases aQ
 have ax:Kept s ((s.del b).set kb (.box T (cells.set i (.aF 1 (cs.take n) .a7)))) w p w (p.dT b True):=⟨fun _ _ _=>rfl,fun aW aq eO=>by
  have bk:aW≠kb:=fun e=>by subst e;rw [jG] at eO;cases eO
  rw [ao.eQ _ _ bk]
  by_cases e:aW=b
  ·subst e;exact ao.ob _ _
  ·rw [ao.nE _ e];exact eO,fun aW o aq eO aB=>by
   rcases aB with aB|⟨rfl,_⟩
   ·exact aB
   ·rw [al] at eO;cases eO⟩
 have ca:dn w (p.dT b True) ((s.del b).set kb (.box T (cells.set i (.aF 1 (cs.take n) .a7)))):=by
  refine ⟨fun aW o aq=>?_,fun aW o aB=>by rcases aB with aB|⟨rfl,_⟩;exact h.wf.lt _ _ aB;exact au⟩;have fo:aW≠b→∀ o,p.dT b True aW o↔p aW o:=fun e o=>⟨fun aB=>by rcases aB with aB|⟨e',_⟩;exact aB;exact absurd e' e,.inl⟩
  by_cases js:aW=kb
  ·subst js
   rw [ao.fH] at aq;cases aq;obtain ⟨us,g1,g2,g3⟩:=h.wf.obj _ _ jG;obtain ⟨v,nF,lK⟩:=g2.get aw;have bF:=(g2.mono hle).set i (dt v lK);have fx:us.toList.set i v=us.toList:=by
    apply ar0;intro k;rw [av'];split
    ·rename_i e;subst e
     split
     ·rw [nF]
     ·rename_i au;rw [List.getElem?_eq_none ak]
    ·rfl
   rw [fx] at bF;exact ⟨us,g1,bF,fun o aB=>g3 o ((fo cN o).1 aB)⟩
  rw [ao.eQ _ _ js] at aq;by_cases e:aW=b
  ·subst e;rw [ao.ob] at aq;cases aq
  ·rw [ao.nE _ e] at aq
   have ai:=h.wf.obj aW o aq;have fo:=fo e;cases o with
   | box t c=>obtain ⟨us,g1,g2,g3⟩:=ai;exact ⟨us,g1,g2.mono hle,fun o aB=>g3 o ((fo o).1 aB)⟩
   | row t sz n=>obtain ⟨cur,g1,g2,g3,g4⟩:=ai;exact ⟨cur,g1,g2,g3,fun o=>(fo o).trans (g4 o)⟩
   | map es=>obtain ⟨cr,c,g1,g2,g3⟩:=ai;exact ⟨cr,c,g1,⟨g2.1.mono hle,g2.2.mono hle⟩,g3⟩
   | hz es it l c=>exact ai.qt hle C C
   | tick m=>exact ai
   | loop r env=>exact ⟨ai.1,fun t v h=>(ai.2 t v h).mono hle⟩
 exact ⟨_,h.step hle ax ca,hle,ax⟩
theorem af.ym {c:Code} (I:Ok s L) {kb b n cap:Nat} (i:Nat) {T T':TypeId} {cells cs:List ag} {c':a6} (U:bm L (.own kb) (.box T cells) R) (ad:bm R (.own b) (.box T' cs) c') (aw:cells[i]? = some (dv b n cap)) (cm:n≤cs.length) (av:n≤cap) (hm:n≤9223372036854775807) (j2:(cs.take n).all eZ=true)
  (h:Ok s ((.own kb,.box T (cells.set i (.aF 1 (cs.take n) .a7)))::c')→af P N c Q env (aT s ((.own kb,.box T (cells.set i (.aF 1 (cs.take n) .a7)))::c'))):af P N c Q env (aT s L):=by
 obtain ⟨g1,g2,g3,g4,g5⟩:=Ip (o'' := .box T (cells.set i (.aF 1 (cs.take n) .a7))) I U ad;intro tU B a w p eL aI;obtain ⟨bg,aj,bk,bF⟩:=aI.ym g1 g2 aw g3 cm av hm j2;rw [g4] at aj bF;exact mN (h g5 tU B a w bg eL aj) fun _ _ _ q=>q.after bk bF
theorem aX.JY (aP:bX P Γ) {t e:TypeId} {x y wm:Operand} {it aJ:bQ} {b n cap k:Nat} {kY:IntKind} (ai:o.op = .slice t x none (some y) (some wm)) (aN:Γ.get? t=some it) (bw:it.bN = .aF e) (bP:Γ.get? e=some aJ) (aa:aL env x=some (dv b n cap)) (ar:aL env y=some (.int kY (k:Int))) (JZ:aL env wm=some (.int kY (k:Int))) (ax:k≤cap) :
  aX P N o env s (fun x an=>x=dv b k k∧an=s) (fun _ _=>False):=by
 refine aX.mR hZ fun ro B a w p aI=>?_
 obtain ⟨info,d,U,ad,aj,-⟩:=aP.parts aN;obtain ⟨jv,j0,ck,cL,ev,ee,-⟩:=aP.parts bP;have aA:d = .slice e:=by rw [bw] at aj;cases d<;>simp [ec] at aj;rw [aj]
 subst aA;have aC:=aI.aL aa;have eH:=aI.aL ar;have Rs:=aI.aL JZ;generalize dM:a.eval x=dy at aC;generalize fj:a.eval y=fX at eH;generalize acd:a.eval wm=agV at Rs;cases aC;cases eH;cases Rs;refine .same (val := .slice (some ⟨b,0,none⟩) k k) ?_ (.ho _);unfold execOp;rw [ai];simp only [dM,aq2,an8,fj,acd];refine gb ?_;have av:(0:Int)≤(k:Int):=by omega
 have aw:(k:Int)≤(cap:Int):=by omega
 have aq:(Instr.sliceBounds true n cap none (some (.int kY (k:Int))) (some (.int kY (k:Int)))).run P w = .ok (0,k,k) w:=by
  simp [Instr.sliceBounds,run_sliceBound,av,aw]
 simp only [Instr.sliceAt,Instr.slice,Sem.run_bind,run_underlying ad,Result.andThen_ok,aq,sizeOf,typeInfo,run_program,ck,Sem.run_pure,ee,Nat.sub_zero,Nat.zero_mul];by_cases bn:k=0
 ·simp [bn]
 ·simp [bn,lf]
theorem ab.JY (aP:bX P Γ) {t e:TypeId} {x y wm:Operand} {it aJ:bQ} {b n cap:Nat} (k:Nat) {kY:IntKind} (ay:guardOf ops env o=some true) (aA:o.dst=some d) (a1:af' d N=true) (ai:o.op = .slice t x none (some y) (some wm)) (aN:Γ.get? t=some it) (bw:it.bN = .aF e) (bP:Γ.get? e=some aJ)
  (aa:aL env x=some (dv b n cap)) (ar:aL env y=some (.int kY (k:Int))) (JZ:aL env wm=some (.int kY (k:Int))) (ax:k≤cap) (h:ab P N ops l Q ((d,dv b k k)::env) s):ab P N ops (o::l) Q env s:=
 ab.op ay aA a1 (aX.JY aP ai aN bw bP aa ar JZ ax) (fun x an ⟨U,ad⟩=>by subst U;subst ad;exact h) (fun _ _ h=>h.elim)
end
theorem Rt:xL d4 437 .i64 2:=by
 refine ⟨by kernel_rfl,fun e xs aa w=>?_,fun xs ys aa ar w=>?_⟩
 ·obtain ⟨a,b,rfl⟩:=two aa
  kernel_rfl
 ·obtain ⟨a,b,rfl⟩:=two aa
  obtain ⟨dm,aW,rfl⟩:=two ar;have hint:(d4).underlying 3 = some (.int .i64):=by kernel_rfl
  obtain ⟨info,aQ⟩:=info_of_underlying hint;exact N1 (T := 437) (e := 3) (k := .i64) gN aQ gN hint (fun a b w=>⟨by kernel_rfl,by kernel_rfl⟩) 9998 a b dm aW w
def lF (p:aU) (es:SMap):Prop:=∀ e∈es,∃ m n,e=([m,n],.bool (qa p m n))
theorem lF.len {p:aU} {es:SMap} (h:lF p es):∀ e∈es,e.1.length=2:=fun e he=>by
 obtain ⟨m,n,rfl⟩:=h e he;rfl
theorem lF.put {p:aU} {es:SMap} (h:lF p es) (m n:Int):lF p (es++[([m,n],.bool (qa p m n))]):=fun e he=>by
 rcases ab'.1 he with he|he
 ·exact h e he
 ·exact ⟨m,n,i7.1 he⟩
theorem lF.get {p:aU} {es:SMap} (h:lF p es) {m n:Int} {e:List Int×ag} (he:es.find? (fun e=>e.1==[m,n])=some e):e=([m,n],.bool (qa p m n)):=by
 obtain ⟨a,b,rfl⟩:=h e (List.mem_of_find?_eq_some he);have:=List.find?_some he;simp only [ao7,au7.injEq,and_true] at this;rw [this.1,this.2]
def yn (p:aU) (mb:Nat) (K:a6):Prop:=∃ es,lF p es∧K=[gg mb es]
theorem ra {p:aU} {m:Nat} (hm:m<p.methods.length):∃ x,p.methods[m]? = some x∧(p.methods.map hE)[m]? = some (hE x)∧kH p m=x.fact∧tf p m=x.kind∧jY p m=x.gen:=by
 obtain ⟨x,aa,bY⟩:=b' (f:=hE) hm;have e:p.methods.getD ((m:Nat):Int).toNat default=x:=by rw [ai7,d9,aa];rfl
 exact ⟨x,aa,bY,by unfold kH;rw [e],by unfold tf;rw [e],by unfold jY;rw [e]⟩
theorem Ru (p:aU) (bu:cS p=true) (mb:Nat) (es:SMap) (eg:lF p es) (m n:Nat) (hm:m<p.methods.length) (av:n<p.methods.length):bs d4 386 [.bl (lE p mb) 0,.int .i64 (m:Int),.int .i64 (n:Int)] ([gg mb es]) (fun o K=>o = .ret (.bool (qa p m n))∧yn p mb K):=by
 have aq:=bx;refine bs.bj ah Tryz.func386 C C fun s I=>?_
 obtain ⟨x,aa,bY,f1,-,-⟩:=ra hm;obtain ⟨y,ar,cf,f2,-,-⟩:=ra av;have yo:=qX bu (d8 aa);have Rv:=qX bu (d8 ar);have eI:=uD yo;have b9:=uD Rv;have aG:=JQ (bU p) (py bu) x.fact y.fact ak ak;have e2:qa p m n=j9 (bU p) x.fact y.fact:=by unfold qa;rw [f1,f2]
 unfold yi at aG;rw [yo,Rv,i8,i8,i8,f7 C,← e2] at aG;rw [ae.bJ,ae.bJ] at aG;unfold gg at I ⊢;unfold hE lT at bY cf;unfold ae.cells at aG;unfold lE cj fL at *;unfold jD fL fk br at *;refine ej ?_;refine aS.Eh (xs:=[(m:Int),(n:Int)]) ah I Rt C C C C C C C C C C eg.len aO C ?_;cases aZ:es.find? (fun e=>e.1==[(m:Int),(n:Int)]) with
 | some e=>
  have he:=eg.get aZ;subst he;simp only [an8];refine c1 ?_;exact Fin.bz I C aH a' ⟨rfl,es,eg,rfl⟩
 | none=>
  simp only [aq2];refine c1 ?_;refine aS.Ei (xs:=[(m:Int),(n:Int)]) ah I Rt C C C (.inl C) C C C C C C eg.len aO aZ (fun I=>?_);refine nM ?_;exact Fin.bz I C aH a' ⟨rfl,_,eg.put m n,rfl⟩
theorem Rw (p:aU) (bu:cS p=true) (mb:Nat) (es:SMap) (eg:lF p es) (m n:Nat) (hm:m<p.methods.length) (av:n<p.methods.length):bs d4 359 [.bl (lE p mb) 0,.int .i64 (m:Int),.int .i64 (n:Int)] ([gg mb es]) (fun o K=>o = .ret (.bool (fF p m n))∧yn p mb K):=by
 have aq:=bx;refine bs.bj ah Tryz.func359 C C fun s I=>?_
 have U:=Ru p bu mb es eg m n hm av;have vk:fF p m n=(qa p m n && !qa p n m):=rfl;unfold gg at I ⊢;rw [vk];refine cX ?_;refine ab.bL rfl rfl rfl rfl rfl U I (az.all _) ?_ (fun _ _ ⟨h,_⟩ _=>by cases h);rintro _ _ ⟨⟨⟩,lB,nm,rfl⟩ I;rw [d7] at I ⊢;have ad:=Ru p bu mb lB nm n m av hm;cases qa p m n with
 | false=>
  refine bd ?_;exact Fin.bz I C aH (az.all _) ⟨rfl,lB,nm,rfl⟩
 | true=>
  refine fB ?_;refine ab.bL rfl rfl rfl rfl rfl ad I (az.all _) ?_ (fun _ _ ⟨h,_⟩ _=>by cases h);rintro _ _ ⟨⟨⟩,zw,Fy,rfl⟩ I;rw [d7] at I ⊢;refine eB ?_;exact Fin.bz I C aH (az.all _) ⟨by rw [i8],zw,Fy,rfl⟩
theorem J0 (fv:ag) (q:Int→Bool) (xs:List Int) (aid:a6→Prop) (aE:xs.length<bK) (h:∀ x∈xs,∀ K,aid K→df d4 fv [.int .i64 x] K (fun o aM=>o = .ret (.bool (q x))∧aid aM)) (K:a6) (bC:aid K) :
  bs d4 363 [.aF 1 (xs.map ba) .a7,fv] K (fun o aM=>o = .ret (.int .i64 (match xs.findIdx? q with|some i=>(i:Int)|none => -1))∧aid aM):=by
 have aq:=bx;refine bs.bj ah Tryz.func363 C C fun s I=>?_
 refine gp ?_;refine af.A9 I (σ:=Nat×a6) (fun j=>[(0,.aF 1 (xs.map ba) .a7),(1,fv),(7,.int .i64 xs.length),(8,.int .i64 (j.1:Int))]) (fun j=>j.2) (fun j=>(j.1≤xs.length∧∀ i y,i<j.1→xs[i]? = some y→q y=false)∧aid j.2) (fun j=>xs.length-j.1) (0,K) ⟨⟨by omega,fun i y aQ=>by omega⟩,bC⟩ (by repeat (first|exact trivial|refine ⟨⟨_,rfl,aH⟩,?_⟩|refine ⟨⟨_,rfl,aR.of_eq bc⟩,?_⟩)) (az.all _) ?_;rintro ⟨j,ib⟩ ⟨⟨aK,aG⟩,lA⟩ I
 try simp only at aK aG lA I ⊢
 refine cl ?_;refine af.cond C (fun au=>?_) (fun aV=>?_)
 ·have au:j<xs.length:=by simpa using au
  obtain ⟨x,aa,bY⟩:=b' (f:=ba) au;have aD:=h x (d8 aa) ib lA;unfold ba at bY;refine bd ?_;refine ab.e0 rfl rfl rfl rfl rfl rfl aD I (az.all _) ?_ (fun _ _ ⟨h,_⟩ _=>by cases h);rintro _ BK ⟨⟨⟩,vM⟩ I;rw [d7] at I ⊢;cases nT:q x with
  | true=>
   rw [Ea q xs j x aa nT aG];refine bd ?_;exact Fin.bz I C aH (az.all _) ⟨rfl,vM⟩
  | false=>
   refine bd ?_
   exact bA.mk (j+1,BK) I ⟨⟨au,fun i y aQ ar=>by
    rcases am1.1 aQ with aQ|rfl
    ·exact aG i y aQ ar
    ·rw [aa] at ar;cases ar;exact nT⟩,vM⟩ ct (az.all _) mq
 ·have aV:j=xs.length:=by
   have:xs.length≤j:=by simpa using aV
   omega
  subst aV;rw [Eb q xs (fun i y ar=>aG i y (sW ar) ar)];refine fb ?_;exact Fin.bz I C aH (az.all _) ⟨rfl,lA⟩
theorem ace (q:Int→Bool) (xs:List Int):decide ((match xs.findIdx? q with|some i=>(i:Int)|none => -1)≥0)=xs.any q:=by
 cases h:xs.findIdx? q with
 | none=>
  rw [am6] at h;rw [show xs.any q=false by rw [List.any_eq_false];intro x aa;rw [h x aa];simp];rfl
 | some i=>
  obtain ⟨aQ,U,-⟩:=ak8.1 h;rw [ai6.2 ⟨_,an9 aQ,U⟩];exact i6 (by show ((i:Nat):Int)≥0;omega)
theorem acf (fv:ag) (q:Int→Bool) (xs:List Int) (aid:a6→Prop) (aE:xs.length<bK) (h:∀ x∈xs,∀ K,aid K→df d4 fv [.int .i64 x] K (fun o aM=>o = .ret (.bool (q x))∧aid aM)) (K:a6) (bC:aid K) :
  bs d4 333 [.aF 1 (xs.map ba) .a7,fv] K (fun o aM=>o = .ret (.bool (xs.any q))∧aid aM):=by
 have U:=J0 fv q xs aid aE h K bC;have ad:=ace q xs;refine bs.bj ah Tryz.func333 C C fun s I=>?_
 refine cX ?_;refine ab.bL rfl rfl rfl rfl rfl U I (az.all _) ?_ (fun _ _ ⟨h,_⟩ _=>by cases h);rintro _ ib ⟨⟨⟩,lA⟩ I;rw [d7] at I ⊢;refine eB ?_;exact Fin.bz I C (aR.of_eq (ak5 ag.bool ad)) (az.all _) ⟨rfl,lA⟩
theorem acg {w:bo} {x:ae} (h:dU w x=true∧x.c7=true):hi w x=true:=by
 have ax:=zD h.1 h.2;obtain ⟨o,a,p,c,n,ks⟩:=x;have ax:ks=[]:=ax;subst ax;have av:=h.1;rw [dU,hK,as0] at av;unfold hi;rw [eU,av,gH];rfl
theorem ach {w:bo} {x:ae} (h:dU w x=true∧x.c7=true):hi w x.not=true:=by
 have ax:=zD h.1 h.2;obtain ⟨o,a,p,c,n,ks⟩:=x;have ax:ks=[]:=ax;subst ax;have av:=h.1;rw [dU,hK,as0] at av;unfold hi ae.not;rw [eU,show fr w (.mk 5 0 [] 0 0 [.mk o a p c n []])=true from rfl,gH,eU,av,gH,gH];rfl
theorem aci {w:bo} {f:ae} (aZ:dU w f=true) {arg:Int} (bn:0≤arg) (aj:arg<3) {x:ae} (h:x∈td f arg):hi w x=true∧hi w x.not=true:=by
 obtain ⟨g1,g2,-⟩:=Rr (w:=w) bn aj (Fw aZ h);exact ⟨acg ⟨g1,g2⟩,ach ⟨g1,g2⟩⟩
def ih (l:List ae):ag := .aF 6 (l.map ae.bh) .a7
def gR (p:aU) (dV:List Int) (mb:Nat):List ag:=cj p++(fL (bU p)++[br dV,.map mb])
theorem oJ (x:ae):x.not.bh = .agg [.int .i64 5,.int .i64 0,.aF 1 [] .a7,.int .i64 0,.int .i64 0,.aF 6 [x.bh] .a7]:=by rw [ae.bJ];rfl
def wo (w:bo) (f x:ae):Option ae:=if j9 w f x then some x else if j9 w f x.not then some x.not else none
theorem Fz (w:bo) (f:ae) (arg:Int):k5 w f arg=(td f arg).filterMap (wo w f):=rfl
theorem Rx (p:aU) (bu:cS p=true) (dV:List Int) (mb:Nat) (m:Nat) (hm:m<p.methods.length) (arg:Int) (bn:0≤arg) (aj:arg<3) :
  aY d4 57 [.bl (gR p dV mb) 0,.int .i64 (m:Int),.int .i64 arg] (ih (k5 (bU p) (kH p m) arg)):=by
 have aq:=bx;have uI:=py bu;obtain ⟨x,aa,bY,f1,-,-⟩:=ra hm;have yo:=qX bu (d8 aa);rw [f1,Fz];unfold hE lT at bY;generalize x.fact=f at *;have Ry:=zW yo;have eI:=uD yo;have fs:=IU Ry arg;have lY:=fun y (ar:y∈td f arg)=>aci Ry bn aj ar
 have lx:(td f arg).length≤2+f.size:=by rw [← fs];exact k7 arg f _
 have agW:=yk arg 1;have agX:=yk arg 2;refine aY.bj ah Tryz.func57 C C fun s I=>?_
 unfold ih;unfold gR cj fL at *
 repeat (first|(with_reducible first|apply af.seq|apply af.block)|refine af.cv ?_)
 refine cq C ?_
 repeat (first|(refine WR I ?_;clear I;intro I)|refine ab.c3 ah I rfl rfl rfl rfl rfl rfl rfl (fun cu I=>?_))
 refine af.im I 7 cu C .here (fun I=>?_);refine af.tT ah mixed C ?_
 repeat (first|(refine WS I ?_;clear I;intro I)|refine ab.c3 ah I rfl rfl rfl rfl rfl rfl rfl (fun cu I=>?_)|refine aS.Ed ah I rfl rfl rfl rfl rfl rfl rfl rfl (fun cu I=>?_)|(refine WT I ?_;clear I;intro I))
 have iF:=fun eN dI=>ab9 arg eN dI f.size f (t7 _) none [fl arg 1,fl arg 2] trivial ez
 rw [fs] at iF;simp only [ae.bJ f] at iF;unfold ae.cells cd cB at iF;simp only [d5,d0] at iF;refine ab.e0 rfl rfl rfl rfl rfl rfl (iF _ _) I (.cons (.there .here) (.cons .here .nil)) ?_ (fun _ _ ⟨h,_⟩ _=>by cases h);rintro _ _ ⟨⟨⟩,iL,gd,rfl⟩ I;rw [d7] at I ⊢;generalize td f arg=l at *;have aG:=fun y (ar:y∈l)=>JQ (bU p) uI f y ak (by have:=uD (lY y ar).1;omega)
 have cU:=fun y (ar:y∈l)=>JQ (bU p) uI f y.not ak (by have:=uD (lY y ar).2;omega)
 have Rz:∀ y∈l,yi (bU p) f y = .bW [.bool (j9 (bU p) f y),.int .i64 0]:=fun y ar=>by
  unfold yi;rw [yo,(lY y ar).1];rfl
 have RA:∀ y∈l,yi (bU p) f y.not = .bW [.bool (j9 (bU p) f y.not),.int .i64 0]:=fun y ar=>by
  unfold yi;rw [yo,(lY y ar).2];rfl
 have a1:=fun y=>JV y
 obtain ⟨ys,gl⟩:∃ ys:Nat→List ae,∀ j,ys j=(l.take j).filterMap (wo (bU p) f):=⟨_,fun _=>rfl⟩;have sh:ys 0=[]:=by rw [gl];rfl
 have hs:∀ j,(ys j).length≤l.length:=fun j=>by
  rw [gl];refine al7 (as' _ _) ?_;rw [ah'];omega
 have J1:l.filterMap (wo (bU p) f)=ys l.length:=by rw [gl,ag']
 have RB:∀ (j:Nat) (y:ae),l[j]? = some y→ys (j+1)=ys j++(match wo (bU p) f y with|some z=>[z]|none=>[]):=fun j y ar=>by
  rw [gl,gl,fD ar,aC6,aw9];cases wo (bU p) f y<;>rfl
 rw [J1]
 with_reducible apply ab.nil
 with_reducible apply cg
 cases iL with
 | none=>
  simp only [gj,eV,d7] at I ⊢;refine af.ig (T := 28) I [.aF 6 (l.map ae.bh) .a7] aO (.one aR.a7) (fun I=>?_);refine hC I ?_;intro I;refine af.hv I 57 6 0 fun I=>?_
  refine af.cc [0,7,35,36] C I (σ:=Nat×bM) (fun q=>[(37,.int .i64 (q.1:Int)),(10,.aF 6 ((ys q.1).map ae.bh) q.2)]) (fun q=>[(q.2,.row 57 6 (ys q.1).length)]) (fun q=>q.1≤l.length) (fun q=>l.length-q.1) (0,.nil) (g9 _) ⟨⟨_,rfl,aH⟩,⟨_,rfl,by rw [sh];exact aR.nil gF⟩,trivial⟩ (by rw [sh];exact a') ?_;rintro ⟨j,own⟩ aK I;simp only at aK I ⊢;refine cl ?_;refine af.cond C (fun au=>?_) (fun aV=>?_);rotate_left
  ·obtain rfl:j=l.length:=by simp at aV;omega
   refine fb ?_;exact Fin.cZ I C aR.a7
  have au:j<l.length:=by simpa using au
  obtain ⟨y,ar,cf⟩:=b' (f:=ae.bh) au;have eJ:=d8 ar;have aG:=aG y eJ;have cU:=cU y eJ;have a1:=a1 y;have al:=RB j y ar;have acj:=hs j;rw [Rz y eJ] at aG;rw [RA y eJ] at cU;rw [oJ] at a1 cU;unfold wo at al;simp only [ae.bJ y,ae.bJ f] at aG cU a1 cf;unfold jD fL at aG cU;unfold ae.cells at aG cU a1 cf;cases U:j9 (bU p) f y with
  | true=>
   rw [U] at aG al;rw [f7 C] at al;cases ad:j9 (bU p) f y.not with
   | true=>
    rw [ad] at cU;have dt:(ys (j+1)).length=(ys j).length+1:=by rw [al];simp
    have al:(ys (j+1)).map ae.bh=(ys j).map ae.bh++[y.bh]:=by rw [al,t8,ai2,aj5,show ([y.bh]:List ag)=[y.bh] from rfl]
    rw [ae.bJ y] at al;unfold ae.cells at al;refine ej ?_;refine ab.gn ah I C C C C C C C dB C C C C C C C C aO h' q' ak (fun b1 I=>?_);refine iQ ?_;exact bA.mk (j+1,.own b1) I au mw (by show az _ [(_,.row _ _ (ys (j+1)).length)] _;rw [dt];exact a') jV
   | false=>
    rw [ad] at cU;have dt:(ys (j+1)).length=(ys j).length+1:=by rw [al];simp
    have al:(ys (j+1)).map ae.bh=(ys j).map ae.bh++[y.bh]:=by rw [al,t8,ai2,aj5,show ([y.bh]:List ag)=[y.bh] from rfl]
    rw [ae.bJ y] at al;unfold ae.cells at al;refine ej ?_;refine ab.gn ah I C C C C C C C dB C C C C C C C C aO h' q' ak (fun b1 I=>?_);refine iQ ?_;exact bA.mk (j+1,.own b1) I au mw (by show az _ [(_,.row _ _ (ys (j+1)).length)] _;rw [dt];exact a') jV
  | false=>
   rw [U] at aG al;rw [f4 bc] at al;cases ad:j9 (bU p) f y.not with
   | true=>
    rw [ad] at cU al;rw [f7 C] at al;have dt:(ys (j+1)).length=(ys j).length+1:=by rw [al];simp
    have al:(ys (j+1)).map ae.bh=(ys j).map ae.bh++[y.not.bh]:=by rw [al,t8,ai2,aj5,show ([y.not.bh]:List ag)=[y.not.bh] from rfl]
    rw [oJ,ae.bJ y] at al;unfold ae.cells at al;refine ej ?_;refine ab.gn ah I C C C C C C C dB C C C C C C C C aO h' q' ak (fun b1 I=>?_);refine iQ ?_;exact bA.mk (j+1,.own b1) I au mw (by show az _ [(_,.row _ _ (ys (j+1)).length)] _;rw [dt];exact a') jV
   | false=>
    rw [ad] at cU al;rw [f4 bc] at al;have al:ys (j+1)=ys j:=by rw [al];simp
    refine ej ?_;exact bA.mk (j+1,own) I au mw (by show az _ [(_,.row _ _ (ys (j+1)).length)] _;rw [al];exact a') jV
 | some q=>
  obtain ⟨g,cap,cs⟩:=q;obtain ⟨eD,fh,gv⟩:=gd;simp only [gj,eV,d5,d0] at I ⊢;refine af.Cp (T := 28) (T' := 57) I 0 aO aO C gv (by rw [f6]) (wh _) fh ak (fun I=>?_);simp only [← JW] at I ⊢
  try simp only [List.set_cons_zero] at I ⊢
  refine hC I ?_;intro I;refine af.hv I 57 6 0 fun I=>?_
  refine af.cc [0,7,35,36] C I (σ:=Nat×bM) (fun q=>[(37,.int .i64 (q.1:Int)),(10,.aF 6 ((ys q.1).map ae.bh) q.2)]) (fun q=>[(q.2,.row 57 6 (ys q.1).length)]) (fun q=>q.1≤l.length) (fun q=>l.length-q.1) (0,.nil) (g9 _) ⟨⟨_,rfl,aH⟩,⟨_,rfl,by rw [sh];exact aR.nil gF⟩,trivial⟩ (by rw [sh];exact a') ?_;rintro ⟨j,own⟩ aK I;simp only at aK I ⊢;refine cl ?_;refine af.cond C (fun au=>?_) (fun aV=>?_);rotate_left
  ·obtain rfl:j=l.length:=by simp at aV;omega
   refine fb ?_;exact Fin.cZ I C aR.a7
  have au:j<l.length:=by simpa using au
  obtain ⟨y,ar,cf⟩:=b' (f:=ae.bh) au;have eJ:=d8 ar;have aG:=aG y eJ;have cU:=cU y eJ;have a1:=a1 y;have al:=RB j y ar;have acj:=hs j;rw [Rz y eJ] at aG;rw [RA y eJ] at cU;rw [oJ] at a1 cU;unfold wo at al;simp only [ae.bJ y,ae.bJ f] at aG cU a1 cf;unfold jD fL at aG cU;unfold ae.cells at aG cU a1 cf;cases U:j9 (bU p) f y with
  | true=>
   rw [U] at aG al;rw [f7 C] at al;cases ad:j9 (bU p) f y.not with
   | true=>
    rw [ad] at cU;have dt:(ys (j+1)).length=(ys j).length+1:=by rw [al];simp
    have al:(ys (j+1)).map ae.bh=(ys j).map ae.bh++[y.bh]:=by rw [al,t8,ai2,aj5,show ([y.bh]:List ag)=[y.bh] from rfl]
    rw [ae.bJ y] at al;unfold ae.cells at al;refine ej ?_;refine ab.gn ah I C C C C C C C dB C C C C C C C C aO h' q' ak (fun b1 I=>?_);refine iQ ?_;exact bA.mk (j+1,.own b1) I au mw (by show az _ [(_,.row _ _ (ys (j+1)).length)] _;rw [dt];exact a') jV
   | false=>
    rw [ad] at cU;have dt:(ys (j+1)).length=(ys j).length+1:=by rw [al];simp
    have al:(ys (j+1)).map ae.bh=(ys j).map ae.bh++[y.bh]:=by rw [al,t8,ai2,aj5,show ([y.bh]:List ag)=[y.bh] from rfl]
    rw [ae.bJ y] at al;unfold ae.cells at al;refine ej ?_;refine ab.gn ah I C C C C C C C dB C C C C C C C C aO h' q' ak (fun b1 I=>?_);refine iQ ?_;exact bA.mk (j+1,.own b1) I au mw (by show az _ [(_,.row _ _ (ys (j+1)).length)] _;rw [dt];exact a') jV
  | false=>
   rw [U] at aG al;rw [f4 bc] at al;cases ad:j9 (bU p) f y.not with
   | true=>
    rw [ad] at cU al;rw [f7 C] at al;have dt:(ys (j+1)).length=(ys j).length+1:=by rw [al];simp
    have al:(ys (j+1)).map ae.bh=(ys j).map ae.bh++[y.not.bh]:=by rw [al,t8,ai2,aj5,show ([y.not.bh]:List ag)=[y.not.bh] from rfl]
    rw [oJ,ae.bJ y] at al;unfold ae.cells at al;refine ej ?_;refine ab.gn ah I C C C C C C C dB C C C C C C C C aO h' q' ak (fun b1 I=>?_);refine iQ ?_;exact bA.mk (j+1,.own b1) I au mw (by show az _ [(_,.row _ _ (ys (j+1)).length)] _;rw [dt];exact a') jV
   | false=>
    rw [ad] at cU al;rw [f4 bc] at al;have al:ys (j+1)=ys j:=by rw [al];simp
    refine ej ?_;exact bA.mk (j+1,own) I au mw (by show az _ [(_,.row _ _ (ys (j+1)).length)] _;rw [al];exact a') jV
def wq (xs:List Int):Nat→List (Nat×Int)
 | 0=>[]
 | m+1=>(m,xs.getD m 0)::wq xs m
def J2 (p:Nat×Int):ag := .int .i64 (p.1:Int)
def J3 (p:Nat×Int):ag := .int .i64 p.2
theorem ack (xs:List Int) (aE:xs.length<bK):IP d4 297 [] [.bl [.aF 1 (xs.map ba) .a7] 0] [] J2 J3 (fun _=>True) (wq xs xs.length):=by
 have w3:bK=1099511627776:=rfl;intro l Go fu fC nP K bC;refine bs.bj ah Tryz.func297 C C fun s I=>?_
 rw [d0] at I ⊢;have p1:((xs.map ba).length:Int)=(xs.length:Int):=by rw [f6]
 have hw:ai' .i64 ((xs.length:Int)-1)=(xs.length:Int)-1:=hf ak ak;refine gp ?_;refine af.cc [0,1] C I (σ:=Nat×a6) (fun q=>[(3,.int .i64 ((q.1:Int)-1))]) (fun q=>q.2) (fun q=>q.1≤xs.length∧Go (wq xs q.1) q.2) (fun q=>q.1) (xs.length,K) ⟨t7 _,bC⟩ (by repeat (first|exact trivial|refine ⟨⟨_,rfl,aH⟩,?_⟩|refine ⟨⟨_,rfl,aR.of_eq (by (rw [p1,hw]))⟩,?_⟩)) (az.all _) ?_;rintro ⟨hY,ib⟩ ⟨hm,ep⟩ I;simp only at hm ep I ⊢;cases hY with
 | zero=>
  refine bd ?_;exact Fin.bz I C aH (az.all _) (.inl ⟨rfl,.inl ep⟩)
 | succ m=>
 have qD:(((m+1:Nat):Int)-1)=(m:Int):=by omega
 simp only [qD];obtain ⟨x,aa,bY⟩:=b' (f:=ba) (show m<xs.length by omega);rw [wq,show xs.getD m 0=x by rw [d9,aa];rfl] at ep;have ar:=nP _ _ ib ep;unfold J2 J3 at ar;unfold ba at bY;refine bd ?_;refine ab.e0 C C C C C C ar I (az.all _) ?_ ?_
 ·rintro x aM (⟨⟨⟩,-,h⟩|⟨⟨⟩,h⟩|⟨_,⟨⟩,_⟩) I
  all_goals rw [d7] at I ⊢
  ·refine bd ?_
   exact bA.mk (m,aM) I ⟨by omega,h⟩ (by repeat (first|exact trivial|refine ⟨⟨_,rfl,aH⟩,?_⟩|refine ⟨⟨_,rfl,aR.of_eq (by (rw [hf ak ak]))⟩,?_⟩)) (az.all _) (by show m<m+1;omega)
  ·refine bd ?_
   exact Fin.bz I C aH (az.all _) (.inl ⟨rfl,.inr h⟩)
 ·rintro x aM (⟨h,_⟩|⟨h,_⟩|⟨v,⟨⟩,h⟩) I
  ·cases h
  ·cases h
  rw [d7] at I ⊢;exact Fin.e1 I aH (az.all _) (.inr ⟨_,rfl,h⟩)
theorem acm (xs:List Int):aY d4 238 [br xs] (.func 297 [] [.bl [.aF 1 (xs.map ba) .a7] 0]):=by
 have aq:=bx;refine aY.bj ah Tryz.func238 C C fun s I=>?_
 unfold br;refine nM ?_;exact b2 I
theorem uJ {p:aU} (h:cS p=true):p.ch.length≤10∧(∃ n,mB 0 p.ch=some n)∧o4 (gY p)=true∧qW p 0 p.ch=true:=by
 have aw:=Jo h;unfold r0 at aw;simp only [d6,f5,ao7] at aw;exact ⟨aw.1,⟨_,aw.2.1⟩,aw.2.2.1,aw.2.2.2⟩
theorem RC {p:aU} (h:cS p=true):I9 p:=by
 obtain ⟨U,⟨n,ad⟩,aj,-⟩:=uJ h;unfold o4 at aj;rw [d6] at aj;have bk:=(II _ _ aj.2).2;refine ⟨U,fun c aw=>⟨?_,EI ad c aw⟩⟩;exact bk c.parents (List.mem_map_of_mem aw)
theorem J4 {p:aU}:∀ (l:List gG) (i j:Nat) (c:gG),qW p i l=true→l[j]? = some c→zA p (i+j) c=true
  | x::r,i,0,c,h,aw=>by
    rw [List.getElem?_cons_zero,ap7.injEq] at aw;subst aw;rw [qW,d6] at h;exact h.1
  | x::r,i,j+1,c,h,aw=>by
    rw [qW,d6] at h;have:=J4 r (i+1) j c h.2 uj;rwa [show i+1+j=i+(j+1) by omega] at this
theorem RD:∀ {p6:List Int} (l:List hD) (seen:List Int),rZ p6 seen l=true→(l.map hD.slot).Nodup∧∀ x∈l,x.slot∉seen
  | p6,[],seen,_=>⟨List.nodup_nil,fun x h=>by cases h⟩
  | p6,x::r,seen,h=>by
    rw [rZ] at h;simp only [d6,aj7,List.contains_eq_mem,decide_eq_false_iff_not] at h;obtain ⟨i1,i2⟩:=RD r _ h.2.2.2;refine ⟨List.nodup_cons.2 ⟨fun aw=>?_,i1⟩,fun y ar=>?_⟩
    · obtain ⟨y,ar,e⟩:=ae'.1 aw
      exact i2 y ar (by rw [e];simp)
    · rcases ai1.1 ar with rfl|ar
      · exact h.2.1
      · exact fun aw=>i2 y ar (al3 _ aw)
theorem acn {p:aU} (h:cS p=true) {c:gG} (aw:c∈p.ch):(c.inits.map hD.slot).Nodup:=by
 obtain ⟨i,aQ⟩:=an6 aw;have:=J4 p.ch 0 i c (uJ h).2.2.2 aQ;unfold zA at this;rw [d6] at this;exact (RD c.inits [] this.2).1
theorem aco {p:aU} (h:cS p=true) {c:Nat} (aw:c<p.ch.length):oD p (c+3)≠[]:=by
 have:=J4 p.ch 0 c _ (uJ h).2.2.2 (f8 aw);unfold zA at this;simp only [d6,aj7,aj8] at this;intro e;rw [e] at this;exact absurd this.1 bc
theorem acp {p:aU} (h:cS p=true) {c:Nat} (aw:c<p.ch.length):(oD p (c+3)).length<1000∧∀ x∈oD p (c+3),0≤x∧x<((3+p.ch.length:Nat):Int):=by
 have ay:=D6 (uJ h).2.2.1;have aE:(gY p).length=p.ch.length:=f6 _;have gq:=zd (gY p) (2+(gY p).length);obtain ⟨l,oc⟩:∃ l,(gO (gY p) (2+(gY p).length))[c+3]? = some l:=⟨_,f8 (by rw [gq];omega)⟩;have he:oD p (c+3)=l:=by unfold oD;rw [d9,oc];rfl
 have ai:=Bt ay (2+(gY p).length) ak;have p1:=ay.len;rw [he,← aE];exact ⟨by have:=ai.len l (d8 oc);omega,ai.D9 l (d8 oc)⟩
theorem RE (p:aU) (aB:e3 p) (bu:cS p=true) (c:Nat) (aw:c<p.ch.length):aY d4 235 [cQ p,.int .i64 ((c:Int)+3)] (.bool true):=by
 have aq:=bx;refine aY.bj ah Tryz.func235 C C fun s I=>?_
 have U:=Qn p aB;rw [bu,f7 C] at U;have cm:=(uJ bu).1;have dq:ai' .i64 (3+((p.ch.map gX).length:Int))=3+(p.ch.length:Int):=by rw [f6,hf ak ak]
 unfold cQ cj at *;refine cX ?_;refine ab.fM 7 C ez ?_;refine fB ?_;refine ab.fM 15 C (by rw [dq];simp;omega) ?_;refine gw ?_;exact b2 I
theorem acq (p:aU) (aB:e3 p) (bu:cS p=true) (c:Nat) (aw:c<p.ch.length):aY d4 177 [cQ p,.int .i64 ((c:Int)+3)] (.bW [br (lW p c),.int .i64 0]):=by
 have aq:=bx;refine aY.bj ah Tryz.func177 C C fun s I=>?_
 have U:=RE p aB bu c aw;have ad:=I' p (RC bu) c aw;unfold cQ cj br at *;refine c1 ?_;exact b2 I
theorem J5 {p:aU} (bu:cS p=true) {c:Nat} (aw:c<p.ch.length):(lW p c).length≤40:=by
 obtain ⟨U,⟨n,ad⟩,-,-⟩:=uJ bu;rw [Fj ad (py bu) aw];unfold l1 tY;rw [f6];refine al7 (al8 _ _) ?_;rw [aq0];exact (py bu).bB
theorem acr (xs:List ag) (own:bM):aY d4 239 [.aF 2 xs own] (.aF 2 xs .clip):=by
 refine aY.bj ah Tryz.func239 C C fun s I=>?_
 refine cX ?_;refine ab.slice ah 0 xs.length C C C C C C C C (.inr C) (.inl ⟨rfl,rfl⟩) (.inr ⟨_,_,rfl,rfl⟩) (.inr ⟨_,_,rfl,rfl,rfl⟩) ak (t7 _) ?_;rw [ag',aq9];refine eB ?_;exact b2 I
def InitM (p:aU) (cb:List Int) (da:g'):Prop:=∀ s,ko da s=(cb.findSome? (sd p s)).map (ag.int .i64)
theorem acs {l:List hD} {k:Nat} {x:hD} (av:(l.map hD.slot).Nodup) (aa:l[k]? = some x) (s:Int):(l.take (k+1)).find? (fun y=>decide (y.slot=s))=if s=x.slot then some x else (l.take k).find? fun y=>decide (y.slot=s):=by
  rw [fD aa,List.find?_append];by_cases e:s=x.slot
  · subst e
    have:(l.take k).find? (fun y=>decide (y.slot=x.slot))=none:=by
      rw [aq3];intro y ar aw;have aw:y.slot=x.slot:=by simpa using aw
      obtain ⟨i,aQ,J6⟩:=List.mem_take_iff_getElem.1 ar;have ax:=(ac'.1 aa);obtain ⟨ma,iB⟩:=ax;have U:(l.map hD.slot)[i]' zM=(l.map hD.slot)[k]'(by rw [f6];exact ma):=by
        rw [aw5,aw5,J6,iB,aw]
      have:=(aB6 av).1 U;omega
    rw [this,f7 C];simp
  · rw [f4 e]
    have:([x]:List hD).find? (fun y=>decide (y.slot=s))=none:=by simp [Ne.symm e]
    rw [this];simp
theorem acu (p:aU) (aB:e3 p) (bu:cS p=true) (c:Nat) (aw:c<p.ch.length):aY d4 178 [cQ p,.int .i64 ((c:Int)+3)] (.bW [.aF 2 ((ti p ((c:Int)+3)).map kB) .a7,.int .i64 0]):=by
 have aq:=bx;obtain ⟨cm,⟨RF,rG⟩,vZ,-⟩:=uJ bu;have lx:(gY p).length=p.ch.length:=f6 _;have U:=RE p aB bu c aw;have ad:=I' p (RC bu) c aw;have kd:=I4 p aB;have aj:=PW (gY p) vZ (c+3) (by rw [lx];omega);have mh:=aco bu aw;obtain ⟨hlen,B2⟩:=acp bu aw;have yp:=J5 bu aw;have hle:EZ ((gO (gY p) (2+(gY p).length)).getD (c+3) []) = .bW [br (oD p (c+3)),.int .i64 0]:=by
  have:(oD p (c+3)).isEmpty=false:=by cases h:oD p (c+3) with|nil=>exact absurd h mh|cons _ _=>rfl
  unfold EZ;rw [show (gO (gY p) (2+(gY p).length)).getD (c+3) []=oD p (c+3) from rfl,this];rfl
 rw [hle] at aj;have zX:ti p ((c:Int)+3)=(lW p c).filterMap fun s=>((oD p (c+3)).findSome? (sd p s)).map fun n=>⟨s,n⟩:=by
  unfold ti th;rw [← Fj rG (py bu) aw,show ((c:Int)+3).toNat=c+3 by omega]
 rw [zX];generalize oD p (c+3)=xs at *;generalize lW p c=al at *;have bk:=acm xs;refine aY.bj ah Tryz.func178 C C fun s I=>?_
 rw [show ((c+3:Nat):Int)=(c:Int)+3 by push_cast;rfl] at aj;unfold cQ cj br fk at *;unfold gY at *;refine c1 ?_;refine ab.ou I C C C C (fun mb I=>?_);refine ej ?_;refine af.Pk I C dh dh (ack xs ak) .nil (fun rem K=>∃ m da,rem=wq xs m∧m≤xs.length∧InitM p (xs.drop m) da∧K=[(.own mb,.map (e9 da))]) (fun _ _=>False) (fun _ _=>False) ⟨xs.length,[],rfl,t7 _,(fun s=>by rw [List.drop_length];rfl),rfl⟩ ?_ ?_ (fun _ _ h=>h.elim) (fun _ _ h=>h.elim)
 ·rintro s₁ ⟨ahZ,d⟩ rem K ⟨m,da,pE,hm,aG,rfl⟩ I
  cases m with
  | zero=>rw [wq] at pE;cases pE
  | succ m=>
  rw [wq] at pE;obtain ⟨bf,rfl⟩:=au7.inj pE;obtain ⟨bT,bI⟩:=Prod.mk.inj bf;have bT:=bT.symm;subst bT;subst bI;obtain ⟨d,aA⟩:∃ d,xs[m]? = some d:=⟨_,f8 ak⟩;have m0:xs.getD m 0=d:=by rw [d9,aA];rfl
  have agY:=B2 d (d8 aA);rw [m0];unfold J2 J3;have iU:=drop_cons aA;refine gp ?_;refine af.cond C (fun aj=>?_) (fun aj=>?_);rotate_left
  ·have aj:d<3:=by simpa using aj
   refine jR ?_;refine At.mk _ I (az.fQ _) ⟨trivial,m,da,rfl,by omega,fun s=>?_,rfl⟩;rw [iU,aD5];have:sd p s d=none:=by unfold sd;rw [f7 aj]
   rw [this];exact aG s
  have aj:3≤d:=by simpa using aj
  obtain ⟨e,rfl⟩:∃ e:Nat,d=(e:Int)+3:=⟨(d-3).toNat,by omega⟩;obtain ⟨dK,RG,vX⟩:=b' (f:=gX) (l:=p.ch) (j:=e) ak;have RH:=d8 RG;have eK:=acn bu RH;have uk:=(aB.each dK RH).2.2;have acv:∀ s,sd p s ((e:Int)+3)=(dK.inits.find? fun x=>decide (x.slot=s)).map hD.n:=fun s=>by
   unfold sd;rw [f4 ak,show ((e:Int)+3-3).toNat=e by omega,d9,RG];rfl
  have dq:ai' .i64 ((e:Int)+3-3)=(e:Int):=by rw [hf ak ak];omega
  unfold gX sX at vX;refine cX ?_;refine ab.idx ah e C C C C C C C C C C dq vX C ?_;refine fc ?_
  refine af.cc [8,45,46] rfl I (σ:=Nat×g') (fun q=>[(47,.int .i64 (q.1:Int))]) (fun q=>[(.own mb,.map (e9 q.2))]) (fun q=>q.1≤dK.inits.length∧∀ s,ko q.2 s=match (dK.inits.take q.1).find? (fun x=>decide (x.slot=s)) with
   | some x=>some (.int .i64 x.n)
   | none=>ko da s) (fun q=>dK.inits.length-q.1) (0,da) ⟨g9 _,fun s=>rfl⟩ (cy C) a' ?_
  rintro ⟨k,p'⟩ ⟨ax,cU⟩ I
  try simp only at ax cU I ⊢
  refine cl ?_;refine af.cond C (fun au=>?_) (fun aV=>?_)
  ·have au:k<dK.inits.length:=by simpa using au
   obtain ⟨x,aa,bY⟩:=b' (f:=kB) au;unfold kB at bY;refine ej ?_;refine ab.kz ah I C C (.inl C) C C C C C C aO C (mF _ _ _) (fun I=>?_);refine eF ?_;refine bA.mk (k+1,mE p' x.slot (.int .i64 x.n)) I ⟨au,fun s=>?_⟩ ct a' (by show dK.inits.length-(k+1)<dK.inits.length-k;omega);rw [EU,acs eK aa];by_cases e:s=x.slot
   ·rw [f7 e,f7 e]
   ·rw [f4 e,f4 e,cU s]
  have aV:k=dK.inits.length:=by simp at aV;omega
  rw [aV,ag'] at cU;refine jR ?_;refine At.mk _ I (az.fQ _) ⟨trivial,m,p',rfl,by omega,fun s=>?_,rfl⟩;rw [iU,aD5,acv,cU s];cases dK.inits.find? (fun x=>decide (x.slot=s)) with
  | some x=>rfl
  | none=>exact aG s
 ·rintro K ⟨m,da,pE,hm,aG,rfl⟩ I
  have Cr:m=0:=by cases m with|zero=>rfl|succ m=>rw [wq] at pE;cases pE
  subst Cr;rw [aq9] at aG;obtain ⟨ys,gl⟩:∃ ys:Nat→List hD,∀ j,ys j=(al.take j).filterMap fun s=>(xs.findSome? (sd p s)).map fun n=>⟨s,n⟩:=⟨_,fun _=>rfl⟩
  have sh:ys 0=[]:=by rw [gl];rfl
  have hs:∀ j,(ys j).length≤al.length:=fun j=>by
   rw [gl];refine al7 (as' _ _) ?_;rw [ah'];omega
  have J1:al.filterMap (fun s=>(xs.findSome? (sd p s)).map fun n=>(⟨s,n⟩:hD))=ys al.length:=by rw [gl,ag']
  rw [J1];refine c1 ?_;refine af.hv I 133 2 0 fun I=>?_
  refine af.cc [8,59,60] C I (σ:=Nat×bM) (fun q=>[(61,.int .i64 (q.1:Int)),(13,.aF 2 ((ys q.1).map kB) q.2)]) (fun q=>[(.own mb,.map (e9 da)),(q.2,.row 133 2 (ys q.1).length)]) (fun q=>q.1≤al.length) (fun q=>al.length-q.1) (0,.nil) (g9 _) ⟨⟨_,rfl,aH⟩,⟨_,rfl,by rw [sh];exact aR.nil gF⟩,trivial⟩ (by rw [sh];exact a') ?_;rintro ⟨j,own⟩ aK I;simp only at aK I ⊢;refine cl ?_;refine af.cond C (fun au=>?_) (fun aV=>?_);rotate_left
  ·obtain rfl:j=al.length:=by simp at aV;omega
   have PZ:=acr ((ys al.length).map kB) own;refine dS ?_;exact Fin.cZ I C (aR.bW (.cons aR.a7 (.one aH)))
  have au:j<al.length:=by simpa using au
  obtain ⟨x,aa,bY⟩:=b' (f:=ba) au;have fs:kc (e9 da) (.int .i64 x)=some (ko da x):=r5 x da;have FA:=aG x;have uK:=gl (j+1);have agZ:=hs j;rw [fD aa,aC6,← gl j] at uK;unfold ba at bY;refine fc ?_;cases aZ:xs.findSome? (sd p x) with
  | none=>
   rw [aZ] at FA;have uK:ys (j+1)=ys j:=by rw [uK,aw9];simp only [aZ,aq2,aE3,d7]
   rw [FA] at fs;refine ab.j7 ah I C C C C C C C C C C aO C fs C ?_;refine bd ?_;exact bA.mk (j+1,own) I au (by repeat (first|exact trivial|refine ⟨⟨_,rfl,aH⟩,?_⟩|refine ⟨⟨_,rfl,aR.of_eq (by (first|rw [lo ak]|rw [uK]))⟩,?_⟩)) (by show az _ [_,(_,.row _ _ (ys (j+1)).length)] _;rw [uK];exact a') (by show al.length-(j+1)<al.length-j;omega)
  | some n=>
   rw [aZ] at FA;have uK:ys (j+1)=ys j++[⟨x,n⟩]:=by rw [uK,aw9];simp only [aZ,an8,aE3]
   have acw:(ys (j+1)).length=(ys j).length+1:=by rw [uK];simp
   rw [FA] at fs;refine ab.j7 ah I C C C C C C C C C C aO C fs C ?_;refine bd ?_;refine ab.gn ah I C C C C C C C dB C C C C C C C C aO h' (by show (_+1)*16≤_;omega) ak (fun b1 I=>?_);refine iQ ?_;exact bA.mk (j+1,.own b1) I au (by repeat (first|exact trivial|refine ⟨⟨_,rfl,aH⟩,?_⟩|refine ⟨⟨_,rfl,aR.of_eq (by (first|rw [lo ak]|(rw [uK,t8];rfl)))⟩,?_⟩)) (by show az _ [_,(_,.row _ _ (ys (j+1)).length)] _;rw [acw];exact a') (by show al.length-(j+1)<al.length-j;omega)
theorem acx (fv:ag) (g:ae→ae) (xs:List ae) (aE:xs.length<1000000) (h:∀ x∈xs,cY d4 fv [ae.bh x] (ae.bh (g x))):aY d4 143 [.aF 6 (xs.map ae.bh) .a7,fv] (.aF 6 ((xs.map g).map ae.bh) .a7):=by
 have aq:=bx;refine aY.bj ah Tryz.func143 C C fun s I=>?_
 refine gp ?_;refine af.hv I 57 6 0 fun I=>?_
 refine af.cc [1,8,9] C I (σ:=Nat×bM) (fun q=>[(10,.int .i64 (q.1:Int)),(5,.aF 6 (((xs.take q.1).map g).map ae.bh) q.2)]) (fun q=>[(q.2,.row 57 6 (xs.take q.1).length)]) (fun q=>q.1≤xs.length) (fun q=>xs.length-q.1) (0,.nil) (g9 _) ⟨⟨_,rfl,aH⟩,⟨_,rfl,aR.nil gF⟩,trivial⟩ a' ?_;rintro ⟨j,own⟩ aK I;simp only at aK I ⊢;refine cl ?_;refine af.cond C (fun au=>?_) (fun aV=>?_);rotate_left
 ·have aV:j=xs.length:=by simp at aV;omega
  subst aV;rw [ag'];refine fb ?_;exact Fin.cZ I C aR.a7
 have au:j<xs.length:=by simpa using au
 obtain ⟨x,aa,bY⟩:=b' (f:=ae.bh) au;have aD:=h x (d8 aa);have al:((xs.take (j+1)).map g).map ae.bh=((xs.take j).map g).map ae.bh++[ae.bh (g x)]:=by rw [fD aa,t8,t8];rfl
 have mh:(xs.take (j+1)).length=(xs.take j).length+1:=by rw [fD aa];simp
 have fs:(xs.take j).length≤xs.length:=by rw [ah'];omega
 rw [ae.bJ] at aD al
 try rw [ae.bJ] at aD bY
 try unfold ae.cells at aD bY
 refine ej ?_;refine ab.gn ah I C C C C C C C dB C C C C C C C C aO h' q' ak (fun b1 I=>?_);refine iQ ?_;exact bA.mk (j+1,.own b1) I au (by repeat (first|exact trivial|refine ⟨⟨_,rfl,aH⟩,?_⟩|refine ⟨⟨_,rfl,aR.of_eq Fu⟩,?_⟩)) (by show az _ [(_,.row _ _ (xs.take (j+1)).length)] _;rw [mh];exact a') mq
theorem acy (fv:ag) (g:Int→ae) (xs:List Int) (aE:xs.length<1000000) (h:∀ x∈xs,cY d4 fv [ba x] (ae.bh (g x))):aY d4 179 [.aF 1 (xs.map ba) .a7,fv] (.aF 6 ((xs.map g).map ae.bh) .a7):=by
 have aq:=bx;refine aY.bj ah Tryz.func179 C C fun s I=>?_
 refine gp ?_;refine af.hv I 57 6 0 fun I=>?_
 refine af.cc [1,8,9] C I (σ:=Nat×bM) (fun q=>[(10,.int .i64 (q.1:Int)),(5,.aF 6 (((xs.take q.1).map g).map ae.bh) q.2)]) (fun q=>[(q.2,.row 57 6 (xs.take q.1).length)]) (fun q=>q.1≤xs.length) (fun q=>xs.length-q.1) (0,.nil) (g9 _) ⟨⟨_,rfl,aH⟩,⟨_,rfl,aR.nil gF⟩,trivial⟩ a' ?_;rintro ⟨j,own⟩ aK I;simp only at aK I ⊢;refine cl ?_;refine af.cond C (fun au=>?_) (fun aV=>?_);rotate_left
 ·have aV:j=xs.length:=by simp at aV;omega
  subst aV;rw [ag'];refine fb ?_;exact Fin.cZ I C aR.a7
 have au:j<xs.length:=by simpa using au
 obtain ⟨x,aa,bY⟩:=b' (f:=ba) au;have aD:=h x (d8 aa);have al:((xs.take (j+1)).map g).map ae.bh=((xs.take j).map g).map ae.bh++[ae.bh (g x)]:=by rw [fD aa,t8,t8];rfl
 have mh:(xs.take (j+1)).length=(xs.take j).length+1:=by rw [fD aa];simp
 have fs:(xs.take j).length≤xs.length:=by rw [ah'];omega
 rw [ae.bJ] at aD al
 try rw [ba] at aD bY
 try unfold ba at aD bY
 refine dS ?_;refine ab.gn ah I C C C C C C C dB C C C C C C C C aO h' q' ak (fun b1 I=>?_);refine iQ ?_;exact bA.mk (j+1,.own b1) I au (by repeat (first|exact trivial|refine ⟨⟨_,rfl,aH⟩,?_⟩|refine ⟨⟨_,rfl,aR.of_eq Fu⟩,?_⟩)) (by show az _ [(_,.row _ _ (xs.take (j+1)).length)] _;rw [mh];exact a') mq
theorem acz (fv:ag) (g:ae→bG) (xs:List ae) (aE:xs.length<1000000) (h:∀ x∈xs,cY d4 fv [ae.bh x] (et (g x))):aY d4 132 [.aF 6 (xs.map ae.bh) .a7,fv] (.aF 7 ((xs.map g).map et) .a7):=by
 have aq:=bx;refine aY.bj ah Tryz.func132 C C fun s I=>?_
 refine gp ?_;refine af.hv I 194 7 0 fun I=>?_
 refine af.cc [1,8,9] C I (σ:=Nat×bM) (fun q=>[(10,.int .i64 (q.1:Int)),(5,.aF 7 (((xs.take q.1).map g).map et) q.2)]) (fun q=>[(q.2,.row 194 7 (xs.take q.1).length)]) (fun q=>q.1≤xs.length) (fun q=>xs.length-q.1) (0,.nil) (g9 _) ⟨⟨_,rfl,aH⟩,⟨_,rfl,aR.nil gF⟩,trivial⟩ a' ?_;rintro ⟨j,own⟩ aK I;simp only at aK I ⊢;refine cl ?_;refine af.cond C (fun au=>?_) (fun aV=>?_);rotate_left
 ·have aV:j=xs.length:=by simp at aV;omega
  subst aV;rw [ag'];refine fb ?_;exact Fin.cZ I C aR.a7
 have au:j<xs.length:=by simpa using au
 obtain ⟨x,aa,bY⟩:=b' (f:=ae.bh) au;have aD:=h x (d8 aa);have al:((xs.take (j+1)).map g).map et=((xs.take j).map g).map et++[et (g x)]:=by rw [fD aa,t8,t8];rfl
 have mh:(xs.take (j+1)).length=(xs.take j).length+1:=by rw [fD aa];simp
 have fs:(xs.take j).length≤xs.length:=by rw [ah'];omega
 rw [q9] at aD al
 try rw [ae.bJ] at aD bY
 try unfold ae.cells at aD bY
 refine ej ?_;refine ab.gn ah I C C C C C C C dB C C C C C C C C aO h' (by show (_+1)*88≤_;omega) ak (fun b1 I=>?_);refine iQ ?_;exact bA.mk (j+1,.own b1) I au (by repeat (first|exact trivial|refine ⟨⟨_,rfl,aH⟩,?_⟩|refine ⟨⟨_,rfl,aR.of_eq Fu⟩,?_⟩)) (by show az _ [(_,.row _ _ (xs.take (j+1)).length)] _;rw [mh];exact a') mq
def ix (x:eW) (arg m:Int):List ag:=[.int .i64 x.op,.int .i64 x.n,br x.kids,.int .i64 arg,.int .i64 m]
theorem acA (b:ag) (x:eW) (arg m:Int):aY d4 111 [b,.agg (ix x arg m)] (ih [.mk 4 arg [] 0 x.n []]):=by
 have aq:=bx;refine aY.bj ah Tryz.func111 C C fun s I=>?_
 unfold ix ih;simp only [ai2,aj5,ae.bJ];refine nM ?_;exact Fin.cZ I C (aR.aF (.one (aR.agg (.cons aH (.cons aH (.cons aR.empty (.cons aH (.cons aH (.one aR.empty)))))))))
theorem acB (b:ag) (x:eW) (arg m:Int):aY d4 112 [b,.agg (ix x arg m)] (ih [fl arg 2]):=by
 have aq:=bx;refine aY.bj ah Tryz.func112 C C fun s I=>?_
 have U:=yk arg 2;unfold ix ih;simp only [ai2,aj5];refine gw ?_;exact Fin.cZ I C aR.a7
theorem acC (b:ag) (x:eW) (arg m:Int):aY d4 116 [b,.agg (ix x arg m)] (ih [fl arg 1]):=by
 have aq:=bx;refine aY.bj ah Tryz.func116 C C fun s I=>?_
 have U:=yk arg 1;unfold ix ih;simp only [ai2,aj5];refine gw ?_;exact Fin.cZ I C aR.a7
theorem RI (x:ae) (aa:x.op≠5) (aB:x.path.length<bK) (arg:Int):aY d4 184 [x.bh,.int .i64 arg] ((ae.mk x.op arg x.path x.cls x.n x.kids).bh):=by
 have aq:=bx;refine aY.bj ah Tryz.func184 C C fun s I=>?_
 obtain ⟨o,a,p,c,n,ks⟩:=x;have aw:=vB p .a7 aB;have aa:o≠5:=aa;rw [ae.bJ,ae.bJ];unfold ae.cells;unfold ba at aw;simp only [ae.op,ae.arg,ae.path,ae.cls,ae.n,ae.kids]
 repeat (first|(refine sM ?_)|refine ab.h0 I C C C C C C (fun b I=>?_)|refine ab.c3 ah I C C C C C C C (fun cu I=>?_)|(refine Bc I ?_;clear I;intro I))
 refine af.cond C (fun h=>absurd fG aa) (fun _=>?_);refine c9 I ?_;intro I;exact Fin.cZ I (iS C C (bm.get aO I) C) aH
theorem acD (x:ae) (aa:x.op≠5) (aB:x.path.length<bK) (arg:Int):aY d4 184 [x.not.bh,.int .i64 arg] ((ae.mk x.op arg x.path x.cls x.n x.kids).not.bh):=by
 have aq:=bx;refine aY.bj ah Tryz.func184 C C fun s I=>?_
 have U:=RI x aa aB arg;have ad:=JV (ae.mk x.op arg x.path x.cls x.n x.kids);have ar:([x.bh]:List ag)[0]? = some x.bh:=rfl;rw [oJ];rw [oJ] at ad ⊢;rw [ae.bJ x] at U ar ⊢;rw [ae.bJ (ae.mk x.op arg x.path x.cls x.n x.kids)] at U ad ⊢;unfold ae.cells at *
 repeat (first|(refine MB ?_)|refine ab.h0 I C C C C C C (fun b I=>?_)|refine ab.c3 ah I C C C C C C C (fun cu I=>?_)|(refine WU I ?_;clear I;intro I))
 exact Fin.cZ I (iS C C (bm.get aO I) C) aH
theorem acE (w:bo) (hw:fJ w) (a c:Nat) (bp:a<3+w.ps.length) (aw:c<3+w.ps.length):aY d4 176 [jD w,.int .i64 (a:Int),.int .i64 (c:Int)] (.bW [.bool ((lu w a).testBit c),.int .i64 0]):=by
 have aq:=bx;refine aY.bj ah Tryz.func176 C C fun s I=>?_
 have aZ:=hw.few;have U:=NM w hw;have ad:=H5 w (pad (fK w.ps)) (a:Int) aZ;have aj:=H5 w (pad (fK w.ps)) (c:Int) aZ;rw [i6 (by omega:(a:Int)≥0),i6 (by omega:(a:Int)<3+(w.ps.length:Int))] at ad;rw [i6 (by omega:(c:Int)≥0),i6 (by omega:(c:Int)<3+(w.ps.length:Int))] at aj;have lJ:=xy w.ps;obtain ⟨m,hm⟩:∃ m,(fK w.ps)[a]? = some m:=⟨_,f8 ak⟩;have jI:=HK aZ m (d8 hm);have bk:=Bv m c jI ak;have bF:=H7 (w:=w) (HL hm);have hu:lu w a=m:=by unfold lu;rw [ai7,d9,hm];rfl
 rw [hu];unfold gf at *;unfold rR jD fL br fk at *;refine c1 ?_;refine ab.xt ah a C C C C C C C C C C ak ?_;refine ab.Bx ah C C C C C C C (by simpa using bF) ?_;refine gw ?_;exact b2 I
theorem acF (bD:Int) (x:hD):cY d4 (.func 182 [] [.bl [.int .i64 bD] 0]) [kB x] (.bool (decide (x.slot=bD))):=by
 have aq:=bx;refine cY.ey (first:=[]) (cap:=[.bl [.int .i64 bD] 0]) ?_;refine aY.bj ah Tryz.func182 C C fun s I=>?_
 unfold kB;refine nM ?_;exact b2 I
theorem acG (fv:ag) (q:hD→Bool) (xs:List hD) (aE:xs.length<bK) (h:∀ x∈xs,cY d4 fv [kB x] (.bool (q x))) :
  aY d4 181 [.aF 2 (xs.map kB) .a7,fv] (.int .i64 (match xs.findIdx? q with|some i=>(i:Int)|none => -1)):=by
 have aq:=bx;refine aY.bj ah Tryz.func181 C C fun s I=>?_
 refine gp ?_;refine af.cc [0,1,7] C I (σ:=Nat) (fun j=>[(8,.int .i64 (j:Int))]) (fun _=>[]) (fun j=>j≤xs.length∧∀ i y,i<j→xs[i]? = some y→q y=false) (fun j=>xs.length-j) 0 ⟨g9 _,fun i y aQ=>absurd aQ (Nat.not_lt_zero _)⟩ (cy C) a' ?_;rintro j ⟨aK,aG⟩ I
 try simp only at aK aG I ⊢
 refine cl ?_;refine af.cond C (fun au=>?_) (fun aV=>?_)
 ·have au:j<xs.length:=by simpa using au
  obtain ⟨x,aa,bY⟩:=b' (f:=kB) au;have aD:=h x (d8 aa);unfold kB at bY aD;cases nT:q x with
  | true=>
   rw [nT] at aD;rw [Ea q xs j x aa nT aG];refine c1 ?_;exact b2 I
  | false=>
   rw [nT] at aD;refine c1 ?_
   exact bA.mk (j+1) I ⟨au,fun i y aQ ar=>by
    rcases am1.1 aQ with aQ|rfl
    ·exact aG i y aQ ar
    ·rw [aa] at ar;cases ar;exact nT⟩ ct a' mq
 ·have aV:j=xs.length:=by simp at aV;omega
  rw [Eb q xs (fun i y ar=>aG i y (by have:=sW ar;omega) ar)];refine fb ?_;exact b2 I
def zY (cR:List hD) (arg bD:Int):ae:=match cR.find? fun x=>decide (x.slot=bD) with
 | some b => .mk 4 arg [bD] 0 b.n []
 | none => .mk 2 arg [bD] 2 0 []
theorem RJ (g:Int→Option Int) (s:Int):∀ l:List Int,s∈l→(l.filterMap fun s=>(g s).map fun n=>(⟨s,n⟩:hD)).find? (fun x=>decide (x.slot=s))=(g s).map fun n=>⟨s,n⟩
  | x::r,h=>by
    rw [aw9];by_cases e:x=s
    · subst e
      cases ay:g x with
      | none=>
        simp only [aq2];rw [aq3];intro b aq aw;obtain ⟨y,ar,zZ⟩:=ax5.1 aq;have aw:b.slot=x:=by simpa using aw
        cases zH:g y with
        | none=>rw [zH] at zZ;cases zZ
        | some n=>
          rw [zH] at zZ;have zZ:(⟨y,n⟩:hD)=b:=ap7.inj zZ;subst zZ;have aw:y=x:=aw;subst aw;rw [ay] at zH;cases zH
      | some n=>simp
    · have a8:=RJ g s r (by rcases ai1.1 h with h|h;exact absurd h.symm e;exact h)
      cases ay:g x with
      | none=>simp only [aq2];exact a8
      | some n=>
        simp only [an8];rw [List.find?_cons_of_neg (by simpa using e)];exact a8
theorem acH {p:aU} {c s arg:Int} (h:s∈l1 p c):zY (ti p c) arg s=nZ p arg c s:=by
 unfold zY nZ ti;rw [RJ _ _ _ h];cases th p c s<;>rfl
theorem acI (x:eW) (arg m:Int) (cR:List hD) (aE:cR.length<bK) (bD:Int):cY d4 (.func 180 [] [.bl (ix x arg m) 0,.bl [.aF 2 (cR.map kB) .a7] 0]) [ba bD] ((zY cR arg bD).bh):=by
 have aq:=bx;refine cY.ey (first:=[]) (cap:=[.bl (ix x arg m) 0,.bl [.aF 2 (cR.map kB) .a7] 0]) ?_;refine aY.bj ah Tryz.func180 C C fun s I=>?_
 have U:=yk arg 2;have ad:=acG (.func 182 [] [.bl [.int .i64 bD] 0]) (fun b=>decide (b.slot=bD)) cR aE (fun b _=>acF bD b);rw [ae.bJ] at U;unfold fl ae.cells at U;simp only [ae.op,ae.arg,ae.path,ae.cls,ae.n,ae.kids,aj5] at U;unfold ix ba zY
 repeat (first|(with_reducible first|apply af.seq|apply af.block)|refine af.cv ?_)
 refine cq C ?_;cases aZ:cR.find? (fun b=>decide (b.slot=bD)) with
 | none=>
  have aj:cR.findIdx? (fun b=>decide (b.slot=bD))=none:=by
   rw [am6];intro b aq;have:=aq3.1 aZ b aq;simpa using this
  rw [aj] at ad;rw [ae.bJ]
  repeat (first|(refine WV I ?_;clear I;intro I)|refine ab.c3 ah I rfl rfl rfl rfl rfl rfl rfl (fun cu I=>?_)|(refine qJ ?_))
  exact Fin.cZ I (iS C C (bm.get aO I) C) (aR.agg (.cons aH (.cons aH (.cons aR.a7 (.cons aH (.cons aH (.one aR.empty)))))))
 | some b=>
  obtain ⟨bT,i,aQ,bI,eh⟩:=List.find?_eq_some_iff_getElem.1 aZ;have aj:cR.findIdx? (fun b=>decide (b.slot=bD))=some i:=ak8.2 ⟨aQ,by rw [bI];exact bT,fun j aK=>by have:=eh j aK;simpa using this⟩;have bk:(cR.map kB)[i]? = some (.agg [.int .i64 b.slot,.int .i64 b.n]):=by rw [aj6,f8 aQ,bI];rfl
  rw [aj] at ad;rw [ae.bJ]
  repeat (first|(refine WW I ?_;clear I;intro I)|refine ab.c3 ah I rfl rfl rfl rfl rfl rfl rfl (fun cu I=>?_)|(refine WX I ?_;clear I;intro I))
  exact Fin.cZ I (iS C C (bm.get aO I) C) (aR.agg (.cons aH (.cons aH (.cons aR.a7 (.cons aH (.cons aH (.one aR.empty)))))))
def uL (p:aU) (arg c:Int) (j:Nat):List ae:=((ak6 j).filter fun i => !(lu (bU p) c).testBit (3+i)).map fun i:Nat=>(fl arg ((i:Int)+3)).not
theorem acJ (p:aU) (arg c:Int) (j:Nat):uL p arg c (j+1)=uL p arg c j++(if (lu (bU p) c).testBit (3+j) then [] else [(fl arg ((j:Int)+3)).not]):=by
 unfold uL;rw [au1,ap6,t8];congr 1;cases h:(lu (bU p) c).testBit (3+j) with
 | true=>rw [an1,f4 (by rw [h];simp),f7 C];rfl
 | false=>rw [an1,f7 (by rw [h];rfl),f4 bc];rfl
theorem RK (p:aU) (arg c:Int) (j:Nat):(uL p arg c j).length≤j:=by
 unfold uL;rw [f6];exact al7 (al8 _ _) (Nat.le_of_eq aq0)
theorem RL (l:List ae):∀ y∈l.map ae.bh,mf 6 y=true:=fun y ar=>by
 obtain ⟨x,-,rfl⟩:=ae'.1 ar;rw [ae.bJ];rfl
theorem acK (p:aU) (aB:e3 p) (bu:cS p=true) (dV:List Int) (mb:Nat) (x:eW) (c:Nat) (aw:c<p.ch.length) (aa:x.n=(c:Int)+3) (arg m:Int) :
  aY d4 113 [.bl (gR p dV mb) 0,.agg (ix x arg m)] (ih (tj p arg x.n)):=by
 have aq:=bx;obtain ⟨J7,zR,FB⟩:=x;have aa:zR=(c:Int)+3:=aa;subst aa;have uI:=py bu;obtain ⟨cm,⟨RF,rG⟩,-,-⟩:=uJ bu;have h8:(bU p).ps.length=p.ch.length:=f6 _;have U:=yk arg ((c:Int)+3);have ad:=fun k:Int=>yk arg k
 have aj:=fun f=>JV f
 have bk:=fun i (aQ:i<p.ch.length)=>acE (bU p) uI (c+3) (3+i) ak ak
 have bF:=acq p aB bu c aw;have fx:=acu p aB bu c aw;have yp:=J5 bu aw;have J8:=Fj rG uI aw;have jL:(ti p ((c:Int)+3)).length≤40:=by
  unfold ti;refine al7 (as' _ _) ?_;rw [← J8];exact yp
 have gL:=acy (.func 180 [] [.bl (ix ⟨J7,(c:Int)+3,FB⟩ arg m) 0,.bl [.aF 2 ((ti p ((c:Int)+3)).map kB) .a7] 0]) (zY (ti p ((c:Int)+3)) arg) (lW p c) ak (fun s _=>acI ⟨J7,(c:Int)+3,FB⟩ arg m _ ak s);have pa:(lW p c).map (zY (ti p ((c:Int)+3)) arg)=(l1 p ((c:Int)+3)).map (nZ p arg ((c:Int)+3)):=by
  rw [J8];exact at4 fun s al=>acH al
 rw [pa] at gL;have bC:tj p arg ((c:Int)+3)=(fl arg ((c:Int)+3)::uL p arg ((c:Int)+3) p.ch.length)++(l1 p ((c:Int)+3)).map (nZ p arg ((c:Int)+3)):=rfl;show aY _ _ _ (ih (tj p arg ((c:Int)+3)));rw [bC];have oB:((l1 p ((c:Int)+3)).map (nZ p arg ((c:Int)+3))).length≤40:=by rw [f6,← J8];exact yp
 generalize (l1 p ((c:Int)+3)).map (nZ p arg ((c:Int)+3))=ah6 at *;refine aY.bj ah Tryz.func113 C C fun s I=>?_
 unfold ih;have acL:((c+3:Nat):Int)=(c:Int)+3:=by push_cast;rfl
 rw [acL] at bk;unfold ix gR cQ cj jD fL at *;simp only at *;rw [ae.bJ] at U;refine c1 ?_;have I:Ok s [(.clip,.row 57 6 1)]:=⟨trivial,trivial⟩;show af _ _ _ _ _ (aT s [(.clip,.row 57 6 1)]);obtain ⟨ys,gl⟩:∃ ys:Nat→List ae,∀ j,ys j=fl arg ((c:Int)+3)::uL p arg ((c:Int)+3) j:=⟨_,fun _=>rfl⟩;have hs:∀ j,(ys j).length≤j+1:=fun j=>by
  rw [gl,i9];have:=RK p arg ((c:Int)+3) j;omega
 have sh:ys 0=[fl arg ((c:Int)+3)]:=by rw [gl];rfl
 rw [show fl arg ((c:Int)+3)::uL p arg ((c:Int)+3) p.ch.length=ys p.ch.length by rw [gl]];refine af.cc [0,3,24,25] C I (σ:=Nat×bM) (fun q=>[(26,.int .i64 (q.1:Int)),(5,.aF 6 ((ys q.1).map ae.bh) q.2)]) (fun q=>[(q.2,.row 57 6 (ys q.1).length)]) (fun q=>q.1≤p.ch.length) (fun q=>p.ch.length-q.1) (0,.clip) (g9 _) ⟨⟨_,rfl,aH⟩,⟨_,rfl,aR.of_eq (by rw [sh,ai2,aj5,ae.bJ])⟩,trivial⟩ (by rw [sh];exact a') ?_;rintro ⟨j,own⟩ aK I;simp only at aK I ⊢;refine cl ?_;refine af.cond C (fun au=>?_) (fun aV=>?_)
 ·have au:j<p.ch.length:=by simpa using au
  have dq:ai' .i64 (3+(j:Int))=((3+j:Nat):Int):=by rw [hf ak ak];push_cast;rfl
  have jS:ai' .i64 (3+(j:Int))=(j:Int)+3:=by rw [hf ak ak];omega
  have bk:=bk j au;rw [← dq] at bk;have ad:aY d4 117 [.int .i64 arg,.int .i64 (ai' .i64 (3+(j:Int)))] (fl arg ((j:Int)+3)).bh:=by rw [jS];exact ad _
  have aj:=aj (fl arg ((j:Int)+3));have al:=gl (j+1);rw [acJ] at al;have lx:=hs j;rw [oJ] at aj;rw [ae.bJ (fl arg ((j:Int)+3))] at ad aj;cases oX:(lu (bU p) ((c:Int)+3)).testBit (3+j) with
  | true=>
   rw [oX] at bk;rw [oX,f7 C,d7,← gl j] at al;refine c1 ?_;exact bA.mk (j+1,own) I au mw (by show az _ [(_,.row _ _ (ys (j+1)).length)] _;rw [al];exact a') B8
  | false=>
   rw [oX] at bk;rw [oX,f4 bc,← d5,← gl j] at al;have dt:(ys (j+1)).length=(ys j).length+1:=by rw [al];simp
   have al:(ys (j+1)).map ae.bh=(ys j).map ae.bh++[(fl arg ((j:Int)+3)).not.bh]:=by rw [al,t8];rfl
   rw [oJ,ae.bJ (fl arg ((j:Int)+3))] at al;refine c1 ?_;refine ab.gn ah I C C C C C C C dB C C C C C C C C aO h' q' ak (fun b1 I=>?_);refine iQ ?_;exact bA.mk (j+1,.own b1) I au (by repeat (first|exact trivial|refine ⟨⟨_,rfl,aH⟩,?_⟩|refine ⟨⟨_,rfl,aR.of_eq Fu⟩,?_⟩)) (by show az _ [(_,.row _ _ (ys (j+1)).length)] _;rw [dt];exact a') B8
 obtain rfl:j=p.ch.length:=by simp at aV;omega
 have hyp:=hs p.ch.length;refine jR ?_;refine af.lO ah mixed C ?_;refine kU ?_;refine sP ?_;refine af.tT ah mixed C ?_
 repeat (first|(refine Hs ?_)|refine aS.Ed ah I C C C C C C C C (fun cu I=>?_)|(refine Ht I ?_;clear I;intro I))
 with_reducible apply cg
 refine af.im I 11 cu C .here (fun I=>?_);refine gw ?_;refine ab.lN ah I C C C C C C C dB C C C C (.inr C) C (RL ah6) C aO (f6 _).symm C (by simp only [f6];show _*80≤_;omega) (by simp only [f6];omega) (fun pb I=>?_);refine eB ?_;exact Fin.cZ I C (by rw [t8];exact aR.a7)
theorem RM {p:aU}:∀ (f:Nat) (r n:Int),eY p f r=true→n∈fU p f r→∃ g,g+1≤f∧eY p (g+1) n=true
  | 0,r,n,h,_=>by rw [eY] at h;cases h
  | f+1,r,n,h,av=>by
    have bn:=h;rw [eY,d6,ai4] at h;rw [fU,f7 h.1] at av;rcases ai1.1 av with rfl|av
    · exact ⟨f,t7 _,bn⟩
    · obtain ⟨k,ax,av⟩:=aq5.1 av
      obtain ⟨g,ay,aZ⟩:=RM f k n (h.2 k ax) av;exact ⟨g,by omega,aZ⟩
theorem FC {p:aU}:∀ (f:Nat) (n:Int),eY p f n=true→eY p (f+1) n=true
  | 0,n,h=>by rw [eY] at h;cases h
  | f+1,n,h=>by
    rw [eY,d6,ai4] at h ⊢;exact ⟨h.1,fun k ax=>FC f k (h.2 k ax)⟩
theorem acM {p:aU} {f g:Nat} {n:Int} (h:eY p f n=true) (acN:f≤g):eY p g n=true:=by
 induction acN with
 | refl=>exact h
 | step _ a8=>exact FC _ n a8
theorem RN {p:aU} (aB:cS p=true) {n:Int} (h:fw p n=true):eY p 12 n=true:=by
 have cO:=tg aB;obtain ⟨r,aC,av⟩:=aq5.1 (cO.all n h);obtain ⟨g,ay,aZ⟩:=RM 12 r n (cO.fits r aC) av;exact acM aZ ay
theorem z1 {p:aU} (aB:cS p=true) {n:Int} (h:fw p n=true):∃ next size,lC p next (b7 p n) size=true:=by
 have cO:=tg aB;obtain ⟨r,aC,av⟩:=aq5.1 (cO.all n h);unfold mI at aC;rcases ab'.1 aC with aC|aC
 ·obtain ⟨m,hm,rfl⟩:=ae'.1 aC
  rw [← Ce p 12 m.node (ye p m)] at av;obtain ⟨x,aa,rfl⟩:=ae'.1 av;exact ⟨_,_,cO.ya m hm x aa⟩
 ·rw [i7.1 aC,← Ce p 12 p.main 0] at av
  obtain ⟨x,aa,rfl⟩:=ae'.1 av;exact ⟨_,_,cO.main x aa⟩
theorem J9 {p:aU} {next:Bool} {x:eW} {size:Int} (h:lC p next x size=true) (ai:x.op=6):3≤x.n∧x.n<3+(p.ch.length:Int):=by
 unfold lC po at h;rw [ai] at h;simp at h;exact h.1
theorem acO {p:aU} {next:Bool} {x:eW} {size:Int} (h:lC p next x size=true) (ai:x.op=3):0≤x.n:=by
 unfold lC po at h;rw [ai] at h;simp at h;exact h.1.1
theorem J' {p:aU} {next:Bool} {x:eW} {size:Int} (h:lC p next x size=true) (ai:x.op=17):x.kids.length=1:=by
 unfold lC x3 at h;rw [ai] at h;simp at h;have:=h.2;omega
theorem Ka {p:aU} {next:Bool} {x:eW} {size:Int} (h:lC p next x size=true) (ai:x.op=5):0≤x.n∧x.n<(p.dX.length:Int)∧p.dX.getD x.n.toNat 0=(x.kids.length:Int):=by
 unfold lC po x3 at h;rw [ai] at h;simp at h;exact ⟨h.1.1,h.1.2,by simpa using h.2⟩
theorem RO {p:aU} (h:cS p=true) {m:hh} (hm:m∈p.methods):0≤m.gen∧m.gen<(p.dX.length:Int):=by
 obtain ⟨-,-,o,ai⟩:=zB h;have:=EK ai m hm;unfold s9 at this;simp only [d6,f5] at this;exact ⟨this.2.2.1,this.2.2.2.1⟩
theorem Cs {p:aU} (h:cS p=true):∀ n∈p.dX,1≤n∧n≤3:=fun n av=>by
 obtain ⟨-,aE,-⟩:=zB h;unfold p7 at aE;simp only [d6,f5,ai4] at aE;exact aE.2.2.2.2 n av
theorem FD {p:aU} (h:cS p=true):p.nodes.length≤120:=by
 obtain ⟨-,aE,-⟩:=zB h;unfold p7 at aE;simp only [d6,f5] at aE;exact aE.2.2.2.1
def Kb (f:ae):Prop:=(f.op≠5∧f.path.length≤2)∨∃ x:ae,x.op≠5∧x.path.length≤2∧f=x.not
theorem acP {arg:Int} {f:ae} (h:f.op≠5):n0 arg f = .mk f.op arg f.path f.cls f.n f.kids:=by
 obtain ⟨o,a,p,c,n,ks⟩:=f;have h:o≠5:=h;show (if o=5 then _ else _)=_;rw [f4 h];rfl
theorem acQ {arg:Int} (x:ae):n0 arg x.not=(ae.mk x.op arg x.path x.cls x.n x.kids).not:=by
 simp [n0,ae.not]
theorem acR (f:ae) (h:Kb f) (arg:Int):aY d4 184 [f.bh,.int .i64 arg] (n0 arg f).bh:=by
 have aq:=bx;rcases h with ⟨U,ad⟩|⟨x,U,ad,rfl⟩
 ·rw [acP U]
  exact RI f U ak arg
 ·rw [acQ]
  exact acD x U ak arg
theorem acS {w:bo} {f:ae} (aZ:dU w f=true) {arg:Int} {y:ae} (h:y∈k5 w f arg):Kb y:=by
 have al:∀ x,wk arg x→x.op≠5∧x.path.length≤2:=fun x aa=>by
  rcases aa with rfl|rfl|⟨o,n,ai,-,rfl⟩
  ·exact ⟨by show (2:Int)≠5;decide,by show ([]:List Int).length≤2;decide⟩
  ·exact ⟨by show (2:Int)≠5;decide,by show ([]:List Int).length≤2;decide⟩
  ·exact ⟨by show o≠5;omega,by show ([]:List Int).length≤2;decide⟩
 rw [Fz] at h;obtain ⟨x,aa,ar⟩:=ax5.1 h;have fi:=al x (Fw aZ aa);unfold wo at ar;split at ar
 ·cases ar;exact .inl fi
 ·split at ar
  ·cases ar;exact .inr ⟨x,fi.1,fi.2,rfl⟩
  ·cases ar
theorem acT (x:eW) (arg m:Int) (f:ae) (aZ:Kb f):cY d4 (.func 183 [] [.bl (ix x arg m) 0]) [f.bh] ((n0 arg f).bh):=by
 have aq:=bx;refine cY.ey (first:=[]) (cap:=[.bl (ix x arg m) 0]) ?_;refine aY.bj ah Tryz.func183 C C fun s I=>?_
 have U:=acR f aZ arg;rw [ae.bJ,ae.bJ] at U ⊢;unfold ix;unfold ae.cells at *
 repeat (first|(refine sO I ?_;clear I;intro I)|refine ab.c3 ah I rfl rfl rfl rfl rfl rfl rfl (fun cu I=>?_)|(refine qJ ?_))
 exact Fin.cZ I (iS C C (bm.get aO I) C) aH
def Ct (p:aU) (arg m n:Int):List ae:=if m≥0∧n<p.dX.getD (jY p m).toNat 0 then (k5 (bU p) (kH p m) n).map (n0 arg) else []
theorem acU (p:aU) (bu:cS p=true) (dV:List Int) (mb:Nat) (x:eW) (aa:0≤x.n) (arg m:Int) (hm:m = -1∨∃ k:Nat,m=k∧k<p.methods.length) :
  aY d4 115 [.bl (gR p dV mb) 0,.agg (ix x arg m)] (ih (Ct p arg m x.n)):=by
 have aq:=bx;rcases hm with rfl|⟨k,rfl,ax⟩
 ·have a1:Ct p arg (-1) x.n=[]:=by unfold Ct;rw [f4 ak]
  rw [a1];refine aY.bj ah Tryz.func115 C C fun s I=>?_
  unfold ix ih;unfold gR cj fL;refine c1 ?_;exact Fin.cZ I C aR.empty
 obtain ⟨y,ar,cf,f1,-,f3⟩:=ra ax;have eJ:=d8 ar;obtain ⟨g0,g1⟩:=RO bu eJ;obtain ⟨g,ay⟩:∃ g:Nat,y.gen=g:=⟨y.gen.toNat,by omega⟩;obtain ⟨xh,xg,Kc⟩:=b' (f:=ba) (l:=p.dX) (j:=g) ak;have y0:=Cs bu xh (d8 xg);have a1:Ct p arg (k:Int) x.n=if x.n<xh then (k5 (bU p) (kH p k) x.n).map (n0 arg) else []:=by
  unfold Ct;rw [f3,ay,ai7,d9,xg,al1];by_cases h:x.n<xh
  ·rw [f7 ⟨by omega,h⟩,f7 h]
  ·rw [f4 (fun eA=>h eA.2),f4 h]
 rw [a1];unfold hE lT at cf;rw [ay] at cf;unfold ba at Kc;by_cases au:x.n<xh
 ·have U:=Rx p bu dV mb k ax x.n aa ak
  have si:=zW (qX bu eJ);rw [← f1] at si;have lx:(k5 (bU p) (kH p k) x.n).length≤80:=by
   rw [Fz];refine al7 (as' _ _) ?_;rw [← IU si];refine al7 (k7 _ _ _) ?_;have:=uD (qX bu eJ);rw [← f1] at this;simp;omega
  have ad:=acx (.func 183 [] [.bl (ix x arg k) 0]) (n0 arg) (k5 (bU p) (kH p k) x.n) ak (fun f aZ=>acT x arg k f (acS si aZ));rw [f7 au];refine aY.bj ah Tryz.func115 C C fun s I=>?_
  unfold ix ih at *;unfold gR cj fL at *;unfold br at *;refine c1 ?_;refine af.cond C (fun h=>by simp at h;omega) (fun _=>?_);refine dS ?_;exact b2 I
 ·rw [f4 au]
  refine aY.bj ah Tryz.func115 C C fun s I=>?_
  unfold ix ih at *;unfold gR cj fL at *;unfold br at *;refine c1 ?_;refine af.cond C (fun _=>?_) (fun h=>by simp at h;omega);refine o3 ?_;exact Fin.cZ I C aR.empty
section
variable {P:Program} {Γ:cz} {N:Nat} {l:List Oper} {i:Nat} {rest:List Oper} {Q:b8→Env→ao→Prop} {env:Env} {s:ao} {o:Oper} {d:Nat}
theorem aS.Fx {L R K:a6} {aik:eS→a6→Prop} {b:Nat} {d':ds} {f:FuncId} {h1:Array Operand} {cP:Array TypeId} {xs:List ag} (ay:dO l env o) (aA:o.dst=some d) (a1:af' d N=true) (aC:fA l.toArray (2^i-1) (idxs 0 l)=[i])
  (cG:o.op = .call { callee := .value (.func f),args:=h1,argTypes:=cP }) (bp:gu (cF l env o) h1.toList=some xs) (h:bs P f xs K aik) (I:Ok s L) (al:az L K R)
  (aK:∀ x aM,aik (.ret x) aM→∃ c',bm (aM++R) (.own b) d' c')
  (ax:∀ x aM,aik (.ret x) aM→Ok s (aM++R)→aS (fun an=>an b=some d') P Γ N l (i+1) rest Q ((d,x)::env) (aT s (aM++R))) (aa:∀ x aM,aik (.panic x) aM→Ok s (aM++R)→Q (.panic x) [] (aT s (aM++R))):aS (fun an=>an b=some d') P Γ N l i (o::rest) Q env (aT s L):=
 aS.oz ay aA a1 aC (aX.bL cG bp h I al) (fun x an ⟨aM,U,ad,aj⟩=>by subst U;obtain ⟨c',gU⟩:=aK x aM aj;exact gU.get ad) (fun x an ⟨aM,U,ad,aj⟩=>by subst U;exact ax x aM aj ad) (fun x an ⟨aM,U,ad,aj⟩=>by subst U;exact aa x aM aj ad)
end
section
variable {P:Program} {N:Nat} {ops:Array Oper} {Q:b8→Env→ao→Prop} {env:Env} {s:ao} {l:List Oper} {o:Oper} {d:Nat}
end
section
variable {P:Program} {Γ:cz} {N:Nat} {l:List Oper} {i:Nat} {rest:List Oper} {Q:b8→Env→ao→Prop} {env:Env} {s:ao} {o:Oper} {d:Nat} {L R:a6}
theorem aS.j7 (aP:bX P Γ) (I:Ok s L) {t ei fy:TypeId} {x y:Operand} {ok:Bool} {it ju aJ:bQ} {m:Nat} {es:List (ag×ag)} {k z:ag} {r:Option ag} (ay:dO l env o) (aA:o.dst=some d) (a1:af' d N=true)
  (ai:o.op = .lookup t x y ok) (aN:Γ.get? t=some it) (bw:it.bN = .map ei fy) (mT:Γ.get? ei=some ju) (bP:Γ.get? fy=some aJ) (aa:aL (cF l env o) x=some (.map m)) (ar:aL (cF l env o) y=some k) (al:bm L (.own m) (.map es) R)
  (aZ:me ju.bN k=true) (aC:kc es k=some r) (bO:ij aJ.zero=some z) (h:aS (fun an=>an=aT s L) P Γ N l (i+1) rest Q ((d,oS ok z r)::env) (aT s L)):aS (fun an=>an=aT s L) P Γ N l i (o::rest) Q env (aT s L):=
 aS.calm ay aA a1 (fun _ e=>by subst e;exact aX.j7 aP I ai aN bw mT bP aa ar al aZ aC bO) h
end
section
variable {J:ao→Prop} {P:Program} {Γ:cz} {N:Nat} {l:List Oper} {i:Nat} {Q:b8→Env→ao→Prop} {env:Env} {s:ao} {o:Oper} {L R:a6}
end
def nn:g':=[(1,.func 111 [] []),(2,.func 112 [] []),(6,.func 113 [] []),(17,.func 114 [] []),(3,.func 115 [] []),
 (12,.func 116 [] []),(13,.func 116 [] []),(14,.func 116 [] []),(15,.func 116 [] []),(16,.func 116 [] [])]
def gK (mb:Nat):a6:=[(.own mb,.map (e9 nn))]
def rb (mb:Nat) (v:ag) (o:eS) (K:a6):Prop:=o = .ret v∧K=gK mb
theorem z6 (p:aU) (dV:List Int) (mb:Nat) (x:eW) (arg m:Int) (fv:ag) (aC:ko nn x.op=some fv) (v:ag) (h:df d4 fv [.bl (gR p dV mb) 0,.agg (ix x arg m)] (gK mb) (rb mb v)) :
  bs d4 127 [.bl (gR p dV mb) 0,.agg (ix x arg m)] (gK mb) (rb mb v):=by
 have aq:=bx;refine bs.bj ah Tryz.func127 C C fun s I=>?_
 have ay:kc (e9 nn) (.int .i64 x.op)=some (some fv):=by rw [r5,aC]
 unfold ix gK at *;unfold gR cj fL at *;refine c1 ?_;refine aS.j7 ah I C C C C C C C C C C aO C ay C ?_;refine c1 ?_;refine ab.e0 rfl rfl rfl rfl rfl rfl h I (az.all _) ?_ (fun _ _ ⟨h,_⟩ _=>by cases h);rintro _ _ ⟨⟨⟩,rfl⟩ I;refine eB ?_;exact Fin.bz I C aH (az.all _) ⟨rfl,rfl⟩
theorem acV (p:aU) (dV:List Int) (mb:Nat) (x:eW) (arg m:Int) (aC:ko nn x.op=none) :
  bs d4 127 [.bl (gR p dV mb) 0,.agg (ix x arg m)] (gK mb) (rb mb (ih [])):=by
 have aq:=bx;refine bs.bj ah Tryz.func127 C C fun s I=>?_
 have ay:kc (e9 nn) (.int .i64 x.op)=some none:=by rw [r5,aC]
 unfold ix gK ih at *;unfold gR cj fL at *;refine c1 ?_;refine aS.j7 ah I C C C C C C C C C C aO C ay C ?_;refine c1 ?_;exact Fin.bz I C aR.empty (az.all _) ⟨rfl,rfl⟩
theorem acW (p:aU) (dV:List Int) (mb:Nat) (x:eW) (arg m:Int) (k:Nat) (aa:x.kids=[(k:Int)]) (ax:k<p.nodes.length) (v:ag)
  (h:bs d4 127 [.bl (gR p dV mb) 0,.agg (ix (b7 p k) arg m)] (gK mb) (rb mb v)) :
  bs d4 114 [.bl (gR p dV mb) 0,.agg (ix x arg m)] (gK mb) (rb mb v):=by
 have aq:=bx;obtain ⟨y,ar,cf⟩:=b' (f:=ff) ax;have e:b7 p (k:Int)=y:=by unfold b7;rw [ai7,d9,ar];rfl
 rw [e] at h;obtain ⟨J7,zR,FB⟩:=x;have aa:FB=[(k:Int)]:=aa;subst aa;refine bs.bj ah Tryz.func114 C C fun s I=>?_
 unfold ff at cf;have ug:([ba (k:Int)]:List ag)[0]? = some (.int .i64 (k:Int)):=rfl;unfold ix gK at *;unfold gR cj fL br at *;simp only [ai2,aj5] at *;refine Bb ?_;refine aS.H4 rfl rfl rfl rfl rfl rfl h I (az.all _) ?_ (fun _ _ ⟨h,_⟩ _=>by cases h);rintro _ _ ⟨⟨⟩,rfl⟩ I;refine dS ?_;exact Fin.bz I C aH (az.all _) ⟨rfl,rfl⟩
theorem cY.Cu {fv:ag} {args:List ag} {v:ag} {mb:Nat} (h:cY d4 fv args v):df d4 fv args (gK mb) (rb mb v):=fun s I=>iN.mono (h _) (fun o an ⟨U,ad⟩=>⟨gK mb,ad,I,U,rfl⟩)
theorem acX {o:Int} (U:o≠1) (ad:o≠2) (aj:o≠3) (fx:o≠6) (tq:o≠17) (al:¬(12≤o∧o≤16)):ko nn o=none:=by
 unfold ko nn;have:o≠12:=by omega
 have:o≠13:=by omega
 have:o≠14:=by omega
 have:o≠15:=by omega
 have:o≠16:=by omega
 simp [*]
theorem Kd (p:aU) (aB:e3 p) (bu:cS p=true) (dV:List Int) (mb:Nat) (arg m:Int) (hm:m = -1∨∃ k:Nat,m=k∧k<p.methods.length):∀ (f:Nat) (n:Int),eY p f n=true →
    bs d4 127 [.bl (gR p dV mb) 0,.agg (ix (b7 p n) arg m)] (gK mb) (rb mb (ih (tk p arg m f n)))
  | 0,n,h=>by rw [eY] at h;cases h
  | f+1,n,h=>by
    rw [eY,d6,ai4] at h;obtain ⟨av,lR⟩:=h;obtain ⟨n6,sz,I⟩:=z1 bu av;unfold tk;simp only;by_cases U:(b7 p n).op=1
    · rw [f7 U]
      exact z6 p dV mb _ arg m _ (by rw [U];rfl) _ (cY.Cu (cY.ey (first:=[]) (cap:=[]) (acA _ _ arg m)))
    rw [f4 U];by_cases ad:(b7 p n).op=2
    · rw [f7 ad]
      exact z6 p dV mb _ arg m _ (by rw [ad];rfl) _ (cY.Cu (cY.ey (first:=[]) (cap:=[]) (acB _ _ arg m)))
    rw [f4 ad];by_cases aj:(b7 p n).op=3
    · rw [f7 aj]
      exact z6 p dV mb _ arg m _ (by rw [aj];rfl) _ (cY.Cu (cY.ey (first:=[]) (cap:=[]) (acU p bu dV mb _ (acO I aj) arg m hm)))
    rw [f4 aj];by_cases fx:(b7 p n).op=6
    · rw [f7 fx]
      obtain ⟨g1,g2⟩:=J9 I fx;exact z6 p dV mb _ arg m _ (by rw [fx];rfl) _ (cY.Cu (cY.ey (first:=[]) (cap:=[]) (acK p aB bu dV mb _ ((b7 p n).n-3).toNat ak ak arg m)))
    rw [f4 fx];by_cases tq:(b7 p n).op=17
    · rw [f7 tq]
      have aE:=J' I tq;obtain ⟨k,ax⟩:=at9.1 aE;have aZ:=lR k (by rw [ax];exact i7.2 C);have hd:fw p k=true:=by
        cases f with
        | zero=>rw [eY] at aZ;cases aZ
        | succ f=>rw [eY,d6] at aZ;exact aZ.1
      have a8:=Kd p aB bu dV mb arg m hm f k aZ;unfold fw at hd;simp only [d6,f5] at hd;obtain ⟨j,rfl⟩:∃ j:Nat,k=j:=⟨k.toNat,by omega⟩;have e:(b7 p n).kids.getD 0 0=(j:Int):=by rw [ax];rfl
      rw [e];exact z6 p dV mb _ arg m _ (by rw [tq];rfl) _ (df.ey (first:=[]) (cap:=[]) (acW p dV mb _ arg m j ax ak _ a8))
    rw [f4 tq];by_cases al:12≤(b7 p n).op∧(b7 p n).op≤16
    · rw [f7 al]
      refine z6 p dV mb _ arg m (.func 116 [] []) ?_ _ (cY.Cu (cY.ey (first:=[]) (cap:=[]) (acC _ _ arg m)));rcases (by omega:(b7 p n).op=12∨(b7 p n).op=13∨(b7 p n).op=14∨(b7 p n).op=15∨(b7 p n).op=16) with e|e|e|e|e<;>(rw [e];rfl)
    rw [f4 al];exact acV p dV mb _ arg m (acX U ad aj fx tq al)
theorem acY {p:aU} (bu:cS p=true) {m:Nat} (hm:m<p.methods.length) (arg:Int):(k5 (bU p) (kH p m) arg).length≤80:=by
 obtain ⟨y,ar,-,f1,-,-⟩:=ra hm;have eJ:=d8 ar;have si:=zW (qX bu eJ);have h:=uD (qX bu eJ);rw [← f1] at si h;rw [Fz];refine al7 (as' _ _) ?_;rw [← IU si];refine al7 (k7 _ _ _) ?_;simp;omega
theorem Ke {p:aU} (aB:e3 p) (bu:cS p=true) {arg m:Int} (hm:m = -1∨∃ k:Nat,m=k∧k<p.methods.length):∀ (f:Nat) (n:Int),eY p f n=true→(tk p arg m f n).length≤100
  | 0,n,h=>by rw [eY] at h;cases h
  | f+1,n,h=>by
    rw [eY,d6,ai4] at h;obtain ⟨av,lR⟩:=h;obtain ⟨n6,sz,I⟩:=z1 bu av;unfold tk;simp only;split
    · simp
    split
    · simp
    split
    · split
      · rename_i U
        rcases hm with rfl|⟨k,rfl,ax⟩
        · omega
        · rw [f6]
          have:=acY bu ax (b7 p n).n;omega
      · simp
    split
    · rename_i fx
      obtain ⟨g1,g2⟩:=J9 I fx;obtain ⟨c,aw⟩:∃ c:Nat,(b7 p n).n=(c:Int)+3:=⟨((b7 p n).n-3).toNat,by omega⟩;rw [aw] at g2 ⊢;have cm:c<p.ch.length:=by omega
      obtain ⟨aE,⟨RF,rG⟩,-,-⟩:=uJ bu;have U:=J5 bu cm;rw [Fj rG (py bu) cm] at U;have ad:=RK p arg ((c:Int)+3) p.ch.length;have hw:=(py bu).few;have h8:(bU p).ps.length=p.ch.length:=f6 _;have e:tj p arg ((c:Int)+3)=fl arg ((c:Int)+3)::uL p arg ((c:Int)+3) p.ch.length++(l1 p ((c:Int)+3)).map (nZ p arg ((c:Int)+3)):=rfl;rw [e,f0,i9,f6];omega
    split
    · rename_i tq
      obtain ⟨k,ax⟩:=at9.1 (J' I tq);have aZ:=lR k (by rw [ax];exact i7.2 C);have e:(b7 p n).kids.getD 0 0=k:=by rw [ax];rfl
      rw [e];exact Ke aB bu hm f k aZ
    split
    · simp
    · simp
theorem Kf (p:aU) (m:Int):∀ (a b:List Int) (i:Int),kq p m i (a++b)=kq p m i a++kq p m (i+a.length) b
  | [],b,i=>by simp [kq]
  | k::a,b,i=>by
    rw [d5,kq,kq,Kf p m a b (i+1),aj0,i9];congr 3;push_cast;omega
theorem Cv (p:aU) (n:Int):n1 p n = -1∨∃ k:Nat,n1 p n=k∧k<p.methods.length:=by
 unfold n1;cases h:p.methods.findIdx? fun m=>(fU p 12 m.node).contains n with
 | none=>exact .inl C
 | some i=>exact .inr ⟨i,rfl,(List.findIdx?_eq_some_iff_findIdx_eq.1 h).1⟩
def l3 (p:aU):List Int:=(ak6 p.nodes.length).map fun i:Nat=>n1 p i
theorem RP {p:aU} {n:Nat} (h:n<p.nodes.length):((l3 p).map ba)[n]? = some (ba (n1 p n)):=by
 unfold l3;rw [aj6,aj6,List.getElem?_range h];rfl
theorem RQ (p:aU) (aB:e3 p) (bu:cS p=true) (mb n:Nat) (av:n<p.nodes.length) (aw:(b7 p n).kids.length≤3) :
  bs d4 61 [.bl (gR p (l3 p) mb) 0,.int .i64 (n:Int)] (gK mb) (rb mb (ih (qc p n))):=by
 have aq:=bx;have dc:∀ j:Nat,j<p.nodes.length→fw p j=true:=fun j aK=>by unfold fw;simp;omega
 have eL:=RN bu (dc n av);have FE:∀ k∈(b7 p n).kids,eY p 12 k=true∧fw p k=true:=fun k ax=>by
  rw [eY,d6,ai4] at eL;have U:=eL.2 k ax;refine ⟨FC _ _ U,?_⟩;rw [eY,d6] at U;exact U.1
 obtain ⟨y,ar,cf⟩:=b' (f:=ff) av;have e:b7 p (n:Int)=y:=by unfold b7;rw [ai7,d9,ar];rfl
 have rA:=RP av;have vL:=Cv p n;unfold qc;rw [e] at FE aw ⊢;have yq:=fun arg f n h=>Kd p aB bu (l3 p) mb arg (n1 p n) (Cv p n) f n h
 have l8:=fun arg (k:Int) (h:eY p 12 k=true)=>Kd p aB bu (l3 p) mb arg (n1 p n) vL 12 k h
 have pe:=fun arg (k:Int) (h:eY p 12 k=true)=>Ke aB bu (arg:=arg) vL 12 k h
 generalize n1 p n=m at *;obtain ⟨np,gA,ys⟩:=y;simp only at FE aw ⊢;have gl:∀ j,j≤ys.length→(kq p m 0 (ys.take j)).length≤100*j:=by
  intro j
  induction j with
  | zero=>intro _;simp [kq]
  | succ j a8=>
   intro aK;obtain ⟨k,ax,-⟩:=b' (f:=ba) (l:=ys) (j:=j) ak;rw [fD ax,Kf,f0];have U:=a8 ak;have ad:=pe (0+((ys.take j).length:Int)) k (FE k (d8 ax)).1;simp only [kq,d7];omega
 refine bs.bj ah Tryz.func61 C C fun s I=>?_
 unfold ff at cf;unfold gK ih at *;unfold gR cj fL br ba at *;refine bd ?_;refine af.hv I 57 6 0 fun I=>?_
 refine af.cc [0,1,16,17] C I (σ:=Nat×bM) (fun q=>[(18,.int .i64 (q.1:Int)),(5,.aF 6 ((kq p m 0 (ys.take q.1)).map ae.bh) q.2)]) (fun q=>[(q.2,.row 57 6 (kq p m 0 (ys.take q.1)).length),(.own mb,.map (e9 nn))]) (fun q=>q.1≤ys.length) (fun q=>ys.length-q.1) (0,.nil) (g9 _) ⟨⟨_,rfl,aH⟩,⟨_,rfl,aR.nil gF⟩,trivial⟩ a' ?_;rintro ⟨j,own⟩ aK I;simp only at aK I ⊢;refine cl ?_;refine af.cond C (fun au=>?_) (fun aV=>?_);rotate_left
 ·have aV:j=ys.length:=by simp at aV;omega
  subst aV;rw [ag'];refine fb ?_;exact Fin.bz I C aR.a7 (az.there (az.all _)) ⟨rfl,rfl⟩
 have au:j<ys.length:=by simpa using au
 obtain ⟨k,ax,fa⟩:=b' (f:=ba) au;obtain ⟨g1,g2⟩:=FE k (d8 ax);have U:=l8 (j:Int) k g1;have ad:=pe (j:Int) k g1;have aj:=gl j aK;have al:kq p m 0 (ys.take (j+1))=kq p m 0 (ys.take j)++tk p j m 12 k:=by
  rw [fD ax,Kf];have bT:((0:Int)+((ys.take j).length:Int))=(j:Int):=by rw [ah'];omega
  rw [bT];simp only [kq,d7]
 unfold fw at g2;simp only [d6,f5] at g2;obtain ⟨fN,rfl⟩:∃ fN:Nat,k=fN:=⟨k.toNat,by omega⟩;obtain ⟨z,bO,xK⟩:=b' (f:=ff) (l:=p.nodes) (j:=fN) ak;have ail:b7 p (fN:Int)=z:=by unfold b7;rw [ai7,d9,bO];rfl
 rw [ail] at U;unfold ff at xK;unfold ba at fa;unfold ix br at U;generalize tk p j m 12 fN=new at *;refine Bb ?_;refine aS.H4 rfl rfl rfl rfl rfl rfl U I (az.there (az.all _)) ?_ (fun _ _ ⟨h,_⟩ _=>by cases h);rintro _ _ ⟨⟨⟩,rfl⟩ I;unfold gK at I ⊢;simp only [d5,d0] at I ⊢;refine aS.oz C C C C (aX.lN ah I C C C C dB C C C C (.inr C) C (RL new) (by simp only [f6];show _*80≤_;omega) (by simp only [f6];omega) (f6 _).symm C C aO (X:=fun _ _=>False)) (fun _ _ _=>trivial) ?_ (fun _ _ h=>h.elim);rintro _ _ ⟨pb,-,-,rfl,rfl,I⟩;refine Bb ?_;exact bA.mk (j+1,pb) I au (by repeat (first|exact trivial|refine ⟨⟨_,rfl,aH⟩,?_⟩|refine ⟨⟨_,rfl,aR.of_eq (by (first|rw [lo ak]|(rw [al,t8];done)))⟩,?_⟩)) (by show az _ [(_,.row _ _ (kq p m 0 (ys.take (j+1))).length),_] _;rw [al,f0];simp only [f6];exact a') JU
theorem Kg (p:aU) (n:Int):aY d4 110 [cQ p,.int .i64 n] (.func 175 [] [.bl [.int .i64 n] 0,.bl (cj p) 0]):=by
 have aq:=bx;refine aY.bj ah Tryz.func110 C C fun s I=>?_
 unfold cQ cj;refine nM ?_;exact b2 I
theorem FF (p:aU) (aB:e3 p):∀ (f:Nat) (n:Int),eY p f n=true→vu d4 175 [] [.bl [.int .i64 n] 0,.bl (cj p) 0] [] ba (fU p f n)
  | 0,n,h=>by rw [eY] at h;cases h
  | f+1,n,h=>by
    have aq:=bx;have a8:=fun k (ax:eY p f k=true)=>FF p aB f k ax
    clear FF;rw [eY,d6,ai4] at h;obtain ⟨av,lR⟩:=h;intro l Go fu fC nP K bC;rw [fU,f7 av] at bC;unfold fw at av;simp only [d6,f5] at av;obtain ⟨i,rfl⟩:∃ i:Nat,n=i:=⟨n.toNat,by omega⟩;obtain ⟨y,ar,cf⟩:=b' (f:=ff) (l:=p.nodes) (j:=i) ak;have e:b7 p (i:Int)=y:=by unfold b7;rw [ai7,d9,ar];rfl
    rw [e] at lR bC;obtain ⟨np,gA,ys⟩:=y;have pe:ys.length<bK:=aB.kids _ (d8 ar);simp only at lR bC;have jU:=fun k=>Kg p k
    refine bs.bj ah Tryz.func175 C C fun s I=>?_
    rw [d0] at I ⊢;unfold cQ at jU;unfold cj ff br at *;refine cX ?_;refine ab.e0 C C C C C C (nP _ _ _ bC) I (az.all _) ?_ ?_;rotate_left
    · rintro x aM (⟨h,_⟩|⟨h,_⟩|⟨v,⟨⟩,aB⟩) I
      · cases h
      · cases h
      rw [d7] at I ⊢;exact Fin.e1 I aH (az.all _) (.inr ⟨_,rfl,aB⟩)
    rintro x aM (⟨⟨⟩,ay⟩|⟨⟨⟩,aA⟩|⟨_,⟨⟩,_⟩) I;rotate_left
    · rw [d7] at I ⊢
      refine bd ?_;exact Fin.bz I C aH (az.all _) (.inl ⟨rfl,.inr aA⟩)
    rw [d7] at I ⊢;refine bd ?_;refine af.cc [1,2,3,16,17] C I (σ:=Nat×a6) (fun q=>[(18,.int .i64 (q.1:Int))]) (fun q=>q.2) (fun q=>q.1≤ys.length∧Go ((ys.drop q.1).flatMap (fU p f)) q.2) (fun q=>ys.length-q.1) (0,aM) ⟨g9 _,ay⟩ (cy C) (az.all _) ?_;rintro ⟨j,ib⟩ ⟨aK,ep⟩ I;simp only at aK ep I ⊢;refine cl ?_;refine af.cond C (fun au=>?_) (fun aV=>?_);rotate_left
    · have aV:j=ys.length:=by simp at aV;omega
      rw [fe ak] at ep;refine ki ?_;exact Fin.bz I C aH (az.all _) (.inl ⟨rfl,.inl ep⟩)
    have au:j<ys.length:=by simpa using au
    obtain ⟨k,ax,fa⟩:=b' (f:=ba) au;have It:=a8 k (lR k (d8 ax));have oX:=jU k;rw [drop_cons ax,List.flatMap_cons] at ep;unfold ba at fa;refine dS ?_;refine af.zb I C dh It .nil (fun rem K=>Go (rem++(ys.drop (j+1)).flatMap (fU p f)) K) (fun c K=>c = .ret∧fu K) (fun v K=>fC v K) ep ?_ ?_ ?_ ?_
    · rintro s₁ x rem K aG I
      unfold ba;refine bd ?_;refine ab.e0 C C C C C C (nP x _ _ aG) I (az.all _) ?_ ?_;rotate_left
      · rintro x aM (⟨h,_⟩|⟨h,_⟩|⟨v,⟨⟩,aB⟩) I
        · cases h
        · cases h
        rw [d7] at I ⊢;exact At.mk aM I (az.all _) aB
      rintro x aM (⟨⟨⟩,ay⟩|⟨⟨⟩,aA⟩|⟨_,⟨⟩,_⟩) I
      · rw [d7] at I ⊢
        refine bd ?_;exact At.mk aM I (az.all _) ay
      · rw [d7] at I ⊢
        refine bd ?_;exact At.mk aM I (az.all _) ⟨rfl,aA⟩
    · rintro K aG I
      rw [d0] at aG;refine eF ?_;exact bA.mk (j+1,K) I ⟨au,aG⟩ ct (az.all _) JU
    · rintro c K ⟨rfl,aA⟩ I
      refine jR ?_;exact Fin.bz I C aH (az.all _) (.inl ⟨rfl,.inr aA⟩)
    · rintro v K aB I
      refine jR ?_;exact Fin.e1 I aH (az.all _) (.inr ⟨_,rfl,aB⟩)
def yr (p:aU):Nat→Int→Int
 | 0,_ => -1
 | j+1,i=>if (fU p 12 (p.methods.getD j default).node).contains i then (j:Int) else yr p j i
def nq (p:aU) (j:Nat) (done:List Int):List Int:=(ak6 p.nodes.length).map fun i:Nat=>if done.contains (i:Int) then (j:Int) else yr p j i
theorem acZ (p:aU) (j:Nat) (done:List Int):(nq p j done).length=p.nodes.length:=by unfold nq;rw [f6,aq0]
theorem ac0 (p:aU) (j k:Nat) (done:List Int):(nq p j done).set k j=nq p j (done++[(k:Int)]):=by
 unfold nq;refine aB7 bc fun i U ad=>?_
 rw [List.getElem_set,aw5,aw5,aD'];by_cases e:k=i
 ·subst e;simp
 ·rw [f4 e]
  have:(done++[(k:Int)]).contains (i:Int)=done.contains (i:Int):=by
   rw [aj3];simp;intro h;omega
  rw [this]
theorem ac1 (p:aU) (j:Nat):nq p j (fU p 12 (p.methods.getD j default).node)=nq p (j+1) []:=by
 unfold nq;refine at4 fun i _=>?_
 rw [yr];simp
theorem ac2 (p:aU):nq p 0 []=ai0 p.nodes.length (-1):=by
 unfold nq;refine aB7 bc fun i U ad=>?_
 rw [aw5,List.getElem_replicate,aD'];simp [yr]
theorem ac3 {p:aU} (h:cS p=true) {i:Int} {a b:Nat} {x y:hh} (aa:p.methods[a]? = some x) (ar:p.methods[b]? = some y) (U:i∈fU p 12 x.node) (ad:i∈fU p 12 y.node):a=b:=by
 have cO:=(tg h).nodup;unfold mI at cO;rw [List.flatMap_append,List.nodup_append] at cO;have a1:=cO.1;rw [List.flatMap_map] at a1;rcases av9 a b with au|e|au
 ·exfalso
  have aj:=aA8.1 (aC3.1 a1).2 a b (ac'.1 aa).1 (ac'.1 ar).1 au;rw [(ac'.1 aa).2,(ac'.1 ar).2] at aj;exact aj i U i ad C
 ·exact e
 ·exfalso
  have aj:=aA8.1 (aC3.1 a1).2 b a (ac'.1 ar).1 (ac'.1 aa).1 au;rw [(ac'.1 aa).2,(ac'.1 ar).2] at aj;exact aj i ad i U C
theorem RR {p:aU} (h:cS p=true) (i:Int):∀ j,j≤p.methods.length→yr p j i=match (p.methods.take j).findIdx? fun m=>(fU p 12 m.node).contains i with|some a=>(a:Int)|none => -1
  | 0,_=>by rw [an7];rfl
  | j+1,aK=>by
    have a8:=RR h i j ak;obtain ⟨x,aa⟩:∃ x,p.methods[j]? = some x:=⟨_,f8 ak⟩;have aA:p.methods.getD j default=x:=by rw [d9,aa];rfl
    have iG:(p.methods.take j).length=j:=by rw [ah'];omega
    rw [yr,aA,fD aa,List.findIdx?_append,iG];cases aw:(fU p 12 x.node).contains i with
    | true=>
      have av:(p.methods.take j).findIdx? (fun m=>(fU p 12 m.node).contains i)=none:=by
        rw [am6];intro m hm;obtain ⟨a,bp,RS⟩:=List.getElem_of_mem hm;rw [List.getElem_take] at RS;cases ph:(fU p 12 m.node).contains i with
        | false=>rfl
        | true=>
          have ag0:a<j:=by omega
          have:=ac3 h (a:=a) (b:=j) (x:=m) (y:=x) (by rw [f8 ak,RS]) aa (by simpa using ph) uj;omega
      rw [av,f7 C];have o9:i∈fU p 12 x.node:=by simpa using aw
      simp [aE1,o9]
    | false=>
      rw [f4 bc,a8];have:([x].findIdx? fun m=>(fU p 12 m.node).contains i)=none:=by
        have o9:i∉fU p 12 x.node:=by simpa using aw
        simp [aE1,o9]
      rw [this];cases (p.methods.take j).findIdx? fun m=>(fU p 12 m.node).contains i<;>rfl
theorem ac4 {p:aU} (h:cS p=true):nq p p.methods.length []=l3 p:=by
 unfold nq l3;refine at4 fun i _=>?_
 have:=RR h i p.methods.length (t7 _);rw [ag'] at this;show (if ([]:List Int).contains (i:Int) then _ else yr p p.methods.length i)=_;rw [f4 bc,this];rfl
def wu (p:aU) (m9 b:Nat) (o:List Int):a6:=[(.own m9,.box 174 (cj p++(fL (bU p)++[dv b p.nodes.length p.nodes.length,.sr]))),(.own b,.box 3 (o.map ba))]
theorem z7 (p:aU) (aB:e3 p) (bu:cS p=true) :
  bs d4 56 [cQ p] [] (fun o K=>∃ mb,o = .ret (.bW [.bl (gR p (l3 p) mb) 0,.bool true])∧K=gK mb):=by
 have aq:=bx;have hw:=Ff p aB;rw [bu,f7 C,f7 C] at hw;have a1:p.nodes.length≤120:=FD bu;have ac5:1≤p.nodes.length:=by
  have:=(tg bu).fits p.main (by unfold mI;simp);rw [eY,d6] at this;have:=this.1;unfold fw at this;simp only [d6,f5] at this;omega
 have Cb:=Qc (-1) p.nodes.length ac5 ak;rw [show ((p.nodes.length:Nat):Int)=(((p.nodes.map ff).length:Nat):Int) by rw [f6]] at Cb;have Dm:∀ (j:Nat) (x:hh),p.methods[j]? = some x→eY p 12 x.node=true∧∀ k∈fU p 12 x.node,fw p k=true:=fun j x aa=>by
  have aC:x.node∈mI p:=by unfold mI;exact al3 _ (ae'.2 ⟨x,d8 aa,rfl⟩)
  exact ⟨(tg bu).fits _ aC,fun k ax=>(tg bu).sc k (aq5.2 ⟨_,aC,ax⟩)⟩
 have rA:=ac4 bu;have xY:=aB.ya;refine bs.bj ah Tryz.func56 C C fun s I=>?_
 unfold cQ jD at *;unfold cj fL at *
 repeat (first|(refine WY ?_)|refine ab.h0 I C C C C C C (fun b I=>?_)|refine ab.c3 ah I C C C C C C C (fun cu I=>?_)|(refine WZ I ?_;clear I;intro I))
 refine af.im I 1 _ C aO (fun I=>?_);refine af.im I 4 _ C aO (fun I=>?_);refine af.MI (σ:=Nat×Nat×Nat) (fun q=>[(6,.ptr q.1 0),(1,.bl (cj p) 0)]) (fun q=>(.own q.1,.box 106 [.ptr q.2.1 0])::wu p q.2.1 q.2.2 (ai0 p.nodes.length (-1))) (fun _=>True) ?_ ?_
 ·unfold wu cj fL
  refine af.oW ah mixed C (bb.run C ?_);refine bb.many rfl (de.c (fq.mk (i:=6) rfl rfl rfl rfl (aX.bL rfl rfl Cb I .nil) ?_ (fun _ _ h=>by obtain ⟨_,_,_,_,h,_⟩:=h;cases h)) (de.c (fq.mk (i:=9) rfl rfl rfl rfl (aX.c3 ah I rfl rfl rfl rfl (X:=fun _ _=>False)) ?_ (fun _ _ h=>False.elim h)) de.n))
  ·rintro _ _ ⟨aM,rfl,I,⟨b,⟨⟩,rfl⟩⟩
   rw [d5,d0] at I ⊢;refine bb.pure 7 C C C C C (.a C) ?_;refine bb.many C (de.c (fq.mk (i:=8) C C C C (aX.h0 I C C C (X:=fun _ _=>False)) ?_ (fun _ _ h=>False.elim h)) (de.c (fq.mk (i:=9) C C C C (aX.c3 ah I C C C C (X:=fun _ _=>False)) ?_ (fun _ _ h=>False.elim h)) de.n))
   ·rintro _ _ ⟨m9,rfl,rfl,I⟩
    refine bb.many C (de.c (fq.mk (i:=9) C C C C (aX.c3 ah I C C C C (X:=fun _ _=>False)) ?_ (fun _ _ h=>False.elim h)) de.n);rintro _ _ ⟨p9,rfl,rfl,I⟩;refine bb.many C (de.c (fq.jP (i:=10) C C C (aX.cC ah I C C C C C C C aO C (X:=fun _ _=>False)) ?_ (fun _ _ h=>False.elim h)) de.n);rintro _ _ ⟨rfl,I⟩;refine bb.run C (bb.done C ?_);exact vw.mk (p9,m9,b) I trivial (cy C) a'
   ·rintro _ _ ⟨p9,rfl,rfl,I⟩
    refine bb.many C (de.c (fq.mk (i:=8) C C C C (aX.h0 I C C C (X:=fun _ _=>False)) ?_ (fun _ _ h=>False.elim h)) de.n);rintro _ _ ⟨m9,rfl,rfl,I⟩;refine bb.many C (de.c (fq.jP (i:=10) C C C (aX.cC ah I C C C C C C C aO C (X:=fun _ _=>False)) ?_ (fun _ _ h=>False.elim h)) de.n);rintro _ _ ⟨rfl,I⟩;refine bb.run C (bb.done C ?_);exact vw.mk (p9,m9,b) I trivial (cy C) a'
  ·rintro _ _ ⟨p9,rfl,rfl,I⟩
   refine bb.many rfl (de.c (fq.mk (i:=6) rfl rfl rfl rfl (aX.bL rfl rfl Cb I .nil) ?_ (fun _ _ h=>by obtain ⟨_,_,_,_,h,_⟩:=h;cases h)) de.n);rintro _ _ ⟨aM,rfl,I,⟨b,⟨⟩,rfl⟩⟩;rw [d5,d0] at I ⊢;refine bb.pure 7 C C C C C (.a C) ?_;refine bb.many C (de.c (fq.mk (i:=8) C C C C (aX.h0 I C C C (X:=fun _ _=>False)) ?_ (fun _ _ h=>False.elim h)) de.n);rintro _ _ ⟨m9,rfl,rfl,I⟩;refine bb.many C (de.c (fq.jP (i:=10) C C C (aX.cC ah I C C C C C C C aO C (X:=fun _ _=>False)) ?_ (fun _ _ h=>False.elim h)) de.n);rintro _ _ ⟨rfl,I⟩;refine bb.run C (bb.done C ?_);exact vw.mk (p9,m9,b) I trivial (cy C) a'
 rintro ⟨p9,m9,b⟩-I;refine af.im I 6 p9 C .here (fun I=>?_);rw [← ac2] at I ⊢;unfold cj;refine gp ?_;refine af.cc [1,6,27,28] C I (σ:=Nat) (fun j=>[(29,.int .i64 (j:Int))]) (fun j=>wu p m9 b (nq p j [])) (fun j=>j≤p.methods.length) (fun j=>p.methods.length-j) 0 (g9 _) (cy C) (az.all _) ?_;rintro j aK I;simp only at aK I ⊢;refine cl ?_;refine af.cond C (fun au=>?_) (fun aV=>?_)
 ·have au:j<p.methods.length:=by simpa using au
  obtain ⟨x,aa,bY⟩:=b' (f:=hE) au;obtain ⟨pF,dc⟩:=Dm j x aa;have aA:p.methods.getD j default=x:=by rw [d9,aa];rfl
  have qT:=ac1 p j;rw [aA] at qT;have kX:=FF p aB 12 x.node pF;have jU:=Kg p x.node;unfold cQ at jU;unfold cj at jU kX;unfold hE lT at bY
  repeat (first|(refine vp I ?_;clear I;intro I)|refine ab.c3 ah I rfl rfl rfl rfl rfl rfl rfl (fun cu I=>?_)|(refine qJ ?_))
  refine af.im I 8 _ C aO (fun I=>?_);refine af.im I 7 _ C aO (fun I=>?_);refine af.zb I C dh kX .nil (fun rem K=>∃ done,done++rem=fU p 12 x.node∧K=wu p m9 b (nq p j done)) (fun _ _=>False) (fun _ _=>False) ⟨[],rfl,rfl⟩ ?_ ?_ (fun _ _ h=>h.elim) (fun _ _ h=>h.elim)
  ·rintro s₁ k rem K ⟨done,Cw,rfl⟩ I
   have ax:=dc k (by rw [← Cw];simp);unfold fw at ax;simp only [d6,f5] at ax;obtain ⟨fN,rfl⟩:∃ fN:Nat,k=fN:=⟨k.toNat,by omega⟩;have AL:c5 (fN*1) [.int .i64 (j:Int)] ((nq p j done).map ba)=(nq p j (done++[(fN:Int)])).map ba:=by
    rw [ue,am8,← ac0,ax6];rfl
   unfold ba;unfold wu at I ⊢;refine hC I ?_;intro I;refine aS.lq ah fN C C C C C C C C C C ak ?_;refine aS.lv ah I _ C C C C C C C C C C aO (by rw [f6,acZ];show fN*1+1≤_;omega) AL (fun I=>?_);refine eF ?_;exact At.mk (wu p m9 b (nq p j (done++[(fN:Int)]))) I (by simp only [wu];exact a') ⟨done++[(fN:Int)],by rw [aj0];exact Cw,rfl⟩
  ·rintro K ⟨done,Cw,rfl⟩ I
   rw [d7] at Cw;rw [Cw,qT] at I ⊢;refine eF ?_;exact bA.mk (j+1) I au ct (az.all _) r8
 have aV:j=p.methods.length:=by simp at aV;omega
 subst aV;rw [rA] at I ⊢;unfold wu at I ⊢;have gq:((l3 p).map ba).length=p.nodes.length:=by unfold l3;simp
 refine bd ?_;refine ab.ou I C C C C (fun mb I=>?_);refine ab.kz ah I C C (.inr C) C C C C C C aO C (mF 1 _ []) (fun I=>?_)
 repeat (refine ab.kz ah I C C (.inr C) C C C C C C aO C (mF _ _ _) (fun I=>?_))
 refine cq C ?_;refine cq C ?_;refine cq C ?_;refine ab.cC ah I C C C C C C C C C aO C (fun I=>?_);refine ab.nil ?_
 with_reducible apply cg
 refine af.ym I (kb:=m9) (b:=b) 8 aO aO C (by rw [gq];exact t7 _) (t7 _) ak (by rw [← gq,ag'];exact te _) (fun I=>?_);rw [← gq,ag'] at I ⊢
 repeat (first|with_reducible apply af.seq|refine e7 C ?_)
 with_reducible apply cg
 refine af.im I 2 m9 C aO (fun I=>?_);refine eB ?_;exact Fin.bz (K:=gK mb) I C aH (by show az _ [(.own mb,.map (e9 nn))] _;exact a') ⟨mb,rfl,rfl⟩
theorem ac6 (p:aU) (aB:e3 p) (bu:cS p=false):aY d4 56 [cQ p] (.bW [.sq,.bool false]):=by
 have aq:=bx;refine aY.bj ah Tryz.func56 C C fun s I=>?_
 have hw:=Ff p aB;rw [bu,f4 bc,f4 bc] at hw;unfold cQ Jn at *;unfold cj at *;refine ej ?_;exact b2 I
def mL (p:aU) (n:Int):Int:=if cS p=true∧fw p n=true then if (b7 p n).op=5 then 0 else 7 else 2
theorem RT (p:aU) (aB:e3 p) (bu:cS p=true) (n:Nat) (av:n<p.nodes.length) (ai:(b7 p n).op=5) :
  bs d4 60 [cQ p,.int .i64 (n:Int)] [] (fun o K=>∃ mb,o = .ret (.bW [.bl (gR p (l3 p) mb) 0,.int .i64 0])∧K=gK mb):=by
 have aq:=bx;have bf:=z7 p aB bu;obtain ⟨y,ar,cf⟩:=b' (f:=ff) av;have e:b7 p (n:Int)=y:=by unfold b7;rw [ai7,d9,ar];rfl
 rw [e] at ai;obtain ⟨np,gA,FG⟩:=y;have ai:np=5:=ai;subst ai;have AU:=aB.nodes;refine bs.bj ah Tryz.func60 C C fun s I=>?_
 unfold ff h4 at cf;unfold cQ at *;unfold cj at bf ⊢;refine cX ?_;refine ab.bL rfl rfl rfl rfl rfl bf I .nil ?_ (fun _ _ ⟨_,h,_⟩ _=>by cases h);rintro _ _ ⟨mb,⟨⟩,rfl⟩ I;rw [d7] at I ⊢;refine bd ?_;refine af.cond C (fun h=>by simp at h;omega) (fun _=>?_);refine bd ?_;exact Fin.bz I C aH (az.all _) ⟨mb,rfl,rfl⟩
theorem RU (p:aU) (aB:e3 p) (n:Int) (aw:mL p n≠0):aY d4 60 [cQ p,.int .i64 n] (.bW [.sq,.int .i64 (mL p n)]):=by
 have aq:=bx;refine aY.bj ah Tryz.func60 C C fun s I=>?_
 have AU:=aB.nodes;unfold mL at aw ⊢;cases bu:cS p with
 | false=>
  have bf:=ac6 p aB bu;rw [f4 bc];unfold cQ at *;unfold cj at *;refine c1 ?_;exact b2 I
 | true=>
  have bf:=z7 p aB bu;unfold fw at aw ⊢;simp only [bu,d6,f5,true_and] at aw ⊢;by_cases U:n<0
  ·rw [f4 ak]
   unfold cQ at *;unfold cj at bf ⊢;refine cX ?_;refine ab.bL rfl rfl rfl rfl rfl bf I .nil ?_ (fun _ _ ⟨_,h,_⟩ _=>by cases h);rintro _ _ ⟨mb,⟨⟩,rfl⟩ I;refine fc ?_;refine ab.fM 20 C ez ?_;refine bd ?_;exact b2 I
  obtain ⟨k,rfl⟩:∃ k:Nat,n=k:=⟨n.toNat,by omega⟩;by_cases ad:k<p.nodes.length
  ·obtain ⟨y,ar,cf⟩:=b' (f:=ff) ad
   have e:b7 p (k:Int)=y:=by unfold b7;rw [ai7,d9,ar];rfl
   rw [e,f7 ak] at aw ⊢;have bF:y.op≠5:=fun h=>aw (by rw [f7 h])
   rw [f4 bF];unfold ff h4 at cf;unfold cQ at *;unfold cj at bf ⊢;refine cX ?_;refine ab.bL rfl rfl rfl rfl rfl bf I .nil ?_ (fun _ _ ⟨_,h,_⟩ _=>by cases h);rintro _ _ ⟨mb,⟨⟩,rfl⟩ I;refine bd ?_;refine af.cond C (fun h=>by simp at h;omega) (fun _=>?_);refine fc ?_;refine af.cond C (fun _=>?_) (fun h=>absurd fG bF);refine bd ?_;exact b2 I
  ·rw [f4 ak]
   unfold cQ at *;unfold cj at bf ⊢;refine cX ?_;refine ab.bL rfl rfl rfl rfl rfl bf I .nil ?_ (fun _ _ ⟨_,h,_⟩ _=>by cases h);rintro _ _ ⟨mb,⟨⟩,rfl⟩ I;refine bd ?_;refine af.cond C (fun _=>?_) (fun h=>by simp at h;omega);refine bd ?_;exact b2 I
theorem Kh (p:aU) (aB:e3 p) (n:Int):aY d4 16 [cQ p,.int .i64 n] (.bW [ih (if mL p n=0 then qc p n else []),.int .i64 (mL p n)]):=by
 have aq:=bx;refine aY.bj ah Tryz.func16 C C fun s I=>?_
 by_cases aw:mL p n=0
 ·rw [f7 aw,aw]
  have ph:=aw;unfold mL at ph;split at ph;rotate_left
  ·omega
  rename_i U;obtain ⟨bu,dc⟩:=U;split at ph;rotate_left
  ·omega
  rename_i bF;unfold fw at dc;simp only [d6,f5] at dc;obtain ⟨k,rfl⟩:∃ k:Nat,n=k:=⟨n.toNat,by omega⟩;have hd:k<p.nodes.length:=by omega
  have yp:(b7 p k).kids.length≤3:=by
   obtain ⟨n6,sz,I⟩:=z1 bu (n:=(k:Int)) (by unfold fw;simp;omega);obtain ⟨g1,g2,g3⟩:=Ka I bF;have:=Cs bu (p.dX.getD (b7 p k).n.toNat 0) (by rw [d9,f8 ak];exact an9 _);omega
  have bf:=RT p aB bu k hd bF;have ax:=fun mb=>RQ p aB bu mb k hd yp
  unfold cQ at *;unfold cj at bf ⊢;refine cX ?_;refine ab.bL rfl rfl rfl rfl rfl bf I .nil ?_ (fun _ _ ⟨_,h,_⟩ _=>by cases h);rintro _ _ ⟨mb,⟨⟩,rfl⟩ I;rw [d7] at I ⊢;refine bd ?_;refine ab.bL rfl rfl rfl rfl rfl (ax mb) I (az.all _) ?_ (fun _ _ ⟨h,_⟩ _=>by cases h);rintro _ _ ⟨⟨⟩,rfl⟩ I;rw [d7] at I ⊢;refine eB ?_;exact b2 I
 ·rw [f4 aw]
  have bf:=RU p aB n aw;generalize mL p n=e at *;unfold cQ at *;unfold cj at bf ⊢;refine gw ?_;refine af.cond C (fun _=>?_) (fun h=>absurd fG aw);refine o3 ?_;exact Fin.cZ I C (aR.bW (.cons aR.empty (.one aH)))
def Cx (p:aU) (m a:Int):Bool:=cS p&&(decide (0≤m)&&(decide (m<(p.methods.length:Int))&&(decide (0≤a)&&decide (a<p.dX.getD (jY p m).toNat 0))))
theorem Ki (p:aU) (aB:e3 p) (m:Nat) (a:Int) (al:Cx p m a=true):aY d4 14 [cQ p,.int .i64 (m:Int),.int .i64 a] (.bW [ih (k5 (bU p) (kH p m) a),.int .i64 0]):=by
 have aq:=bx;refine aY.bj ah Tryz.func14 C C fun s I=>?_
 unfold Cx at al;simp only [d6,f5] at al;obtain ⟨bu,-,hm,bp,au⟩:=al;have hm:m<p.methods.length:=by omega
 obtain ⟨y,ar,cf,f1,-,f3⟩:=ra hm;have eJ:=d8 ar;obtain ⟨g0,g1⟩:=RO bu eJ;obtain ⟨g,ay⟩:∃ g:Nat,y.gen=g:=⟨y.gen.toNat,by omega⟩;obtain ⟨xh,xg,Kc⟩:=b' (f:=ba) (l:=p.dX) (j:=g) ak;have y0:=Cs bu xh (d8 xg);rw [f3,ay,ai7,d9,xg,al1] at au;unfold hE lT at cf;rw [ay] at cf;unfold ba at Kc;have bf:=z7 p aB bu;have aI:=fun mb=>Rx p bu (l3 p) mb m hm a bp ak
 obtain ⟨aif,rfl⟩:∃ k:Nat,a=k:=⟨a.toNat,by omega⟩;unfold cQ at *;unfold cj br ba at *;refine cX ?_;refine ab.bL rfl rfl rfl rfl rfl bf I .nil ?_ (fun _ _ ⟨_,h,_⟩ _=>by cases h);rintro _ _ ⟨mb,⟨⟩,rfl⟩ I;rw [d7] at I ⊢;have aI:=aI mb;refine vq ?_;refine aS.split 28 C (fun h=>by simp at h;omega) (fun _=>?_);refine dS ?_;refine af.cond C (fun h=>by simp at h;omega) (fun _=>?_);refine dS ?_;exact b2 I
def iJ (c:Int):ae := .mk 2 0 [] c 0 []
def uM (n:Int):ae := .mk 3 0 [] 0 n []
def FH (x:eW):aU:=⟨[⟨[],[],[]⟩],0,[1,1],[⟨1,0,iJ 3,0⟩,⟨1,0,.mk 6 0 [] 0 0 [iJ 1,uM 5],1⟩,⟨1,0,.mk 1 0 [] 0 0 [],3⟩,⟨1,1,uM 9,4⟩,⟨1,1,iJ 3,5⟩],[⟨2,0,[]⟩,⟨5,1,[2]⟩,⟨3,0,[]⟩,⟨2,0,[]⟩,⟨2,0,[]⟩,⟨2,0,[]⟩,⟨5,0,[7]⟩,x],6⟩
def fV:aU:=FH ⟨1,4,[]⟩
def iy:aU:=FH ⟨6,3,[]⟩
def kK:en:=⟨[false,true,true,true,false],[false,true,false,true,false]⟩
theorem Kj:cS fV=true:=by kernel_rfl
theorem RV:cS iy=true:=by kernel_rfl
theorem ac7:k5 (bU fV) (kH fV 1) 0=[iJ 1,(iJ 2).not,uM 5]:=by kernel_rfl
theorem ac8:Cx fV 1 0=true:=by kernel_rfl
theorem ac9:qc fV 6=[.mk 4 0 [] 0 4 []]:=by kernel_rfl
theorem ada:qc fV 1=[iJ 1,(iJ 2).not,uM 5]:=by kernel_rfl
theorem adb:mL fV 6=0:=by kernel_rfl
theorem ade:mL fV 1=0:=by kernel_rfl
theorem adf:qd fV 6=[6]:=by kernel_rfl
theorem adg:ic fV (kJ fV)=⟨[false,true,true,false,false],[false,true,false,false,false]⟩:=by kernel_rfl
theorem adh:ic fV ⟨[false,true,true,false,false],[false,true,false,false,false]⟩=kK:=by kernel_rfl
theorem RW:ic fV kK=kK:=by kernel_rfl
theorem adi:qg fV=kK:=by
 have ad:iX fV 2 (kJ fV)=kK:=by
  show ic fV (ic fV (kJ fV))=kK;rw [adg,adh]
 have:=JF (p:=fV) (k:=2) (by rw [ad];exact RW);rw [← this,ad]
theorem adj:zT fV kK=true:=by
 unfold zT;rw [RW];exact i6 C
theorem adk:(ak6 8).map (yh fV)=[false,true,false,false,false,false,true,false]:=by kernel_rfl
theorem RX:(qj fV kK).1.length=3∧Q2 fV kK=[1,2,3]:=by
 constructor<;>kernel_rfl
def z8:en:=⟨[true,false,true,false,false],[true,false,false,false,false]⟩
theorem adl:ic iy (kJ iy)=z8:=by kernel_rfl
theorem adm:ic iy z8=z8:=by kernel_rfl
theorem adn:qg iy=z8:=by
 have U:iX iy 1 (kJ iy)=z8:=adl;have:=JF (p:=iy) (k:=1) (by rw [U];exact adm);rw [← this,U]
theorem ado:k5 (bU iy) (kH iy 0) 0=[(iJ 1).not,(iJ 2).not]:=by kernel_rfl
theorem adp:k5 (bU iy) (kH iy 2) 0=[]:=by kernel_rfl
theorem adq:Cx iy 0 0=true:=by kernel_rfl
theorem adr:Cx iy 2 0=true:=by kernel_rfl
theorem ads:mL iy 0=7:=by kernel_rfl
theorem adt:zT iy kK=false:=by kernel_rfl
theorem JG {out:List Int} {dJ:List ag} {n:Nat} (h:n<out.length) (v:Int):c5 (n*1) [.int .i64 v] (out.map ba++dJ)=(out.set n v).map ba++dJ:=by
 rw [am8,ue,List.set_append_left _ _ (by rw [f6];exact h),ax6];rfl
theorem zV {out:List Int} {dJ:List ag} {n:Nat} (h:n<out.length):(out.map ba++dJ)[n*1]? = some (.int .i64 (out.getD n 0)):=by
 rw [am8,List.getElem?_append_left (by rw [f6];exact h),aj6,d9,f8 h];rfl
structure ag1 (g:List xu):Prop where
 pos:1≤g.length
 len:g.length≤1000
 ms:∀ x∈g,x.ms.length≤16
 pk:∀ (i:Nat) (x:xu),g[i]? = some x→x.atom≥0→(i:Int)<x.no∧x.no<g.length∧(i:Int)<x.yes∧x.yes<g.length
theorem fH {α:Type} {l:List α} {m:Nat} {x:α} (h:l[m]? = some x):l.set m x=l:=by
 apply ar0;intro j;rw [av'];split
 ·rename_i e
  subst e;have:=(ac'.1 h).1;rw [f7 this,h]
 ·rfl
def Kk (es:List (ag×ag)):Prop:=∀ e∈es,∃ n:Int,e.1 = .int .i64 n
theorem RY {x:Int} {v:ag}:∀ {es:List (ag×ag)},Kk es→∃ dE,od es (.int .i64 x) v=some dE∧Kk dE∧∀ y:Int,kc dE (.int .i64 y)=if y=x then some (some v) else kc es (.int .i64 y)
  | [],_=>⟨[(.int .i64 x,v)],rfl,fun e he=>by rw [i7.1 he];exact ⟨x,rfl⟩,fun y=>by
    rw [kc,kc]
    by_cases h:y=x
    · subst h;simp [lI]
    · have:(y==x)=false:=by rw [beq_eq_false_iff_ne];exact h
      simp only [lI,ak2,this,f4 h];rfl⟩
  | e::r,h=>by
    obtain ⟨n,av⟩:=h e g8;obtain ⟨k,u⟩:=e;have av:k = .int .i64 n:=av;subst av;by_cases aa:n=x
    · subst aa
      refine ⟨(.int .i64 n,v)::r,by rw [od];simp [lI],fun e he=>?_,fun y=>?_⟩
      · rcases ai1.1 he with rfl|he
        · exact ⟨n,rfl⟩
        · exact h e (f9 _ he)
      · rw [kc,kc]
        by_cases ar:y=n
        · subst ar;simp [lI]
        · have:(y==n)=false:=by rw [beq_eq_false_iff_ne];exact ar
          simp only [lI,ak2,this,f4 ar]
    · obtain ⟨dE,U,ad,aj⟩:=RY (x:=x) (v:=v) (es:=r) fun e he=>h e (f9 _ he)
      have aq:(x==n)=false:=by rw [beq_eq_false_iff_ne];exact fun e=>aa e.symm
      refine ⟨(.int .i64 n,u)::dE,by rw [od];simp only [lI,ak2,aq,U],fun e he=>?_,fun y=>?_⟩
      · rcases ai1.1 he with rfl|he
        · exact ⟨n,rfl⟩
        · exact ad e he
      · rw [kc,kc,aj]
        by_cases ar:y=n
        · subst ar
          simp [lI,aa]
        · have:(y==n)=false:=by rw [beq_eq_false_iff_ne];exact ar
          simp only [lI,ak2,this]
structure Cy (num:List (ag×ag)) (order path:List Int):Prop where
 int:Kk num
 get:∀ x:Int,kc num (.int .i64 x)=some (if order.contains x then some (.int .i64 (placeOf order x)) else if path.contains x then some (.int .i64 (-1)) else none)
theorem Cy.empty:Cy [] [] []:=⟨fun _ h=>nA,fun _=>rfl⟩
theorem Cy.enter {num:List (ag×ag)} {order path:List Int} (h:Cy num order path) {pk:Int} (U:order.contains pk=false) :
  ∃ RZ,od num (.int .i64 pk) (.int .i64 (-1))=some RZ∧Cy RZ order (pk::path):=by
 obtain ⟨es,ad,aj,bk⟩:=RY (x:=pk) (v := .int .i64 (-1)) h.int;refine ⟨es,ad,aj,fun x=>?_⟩;rw [bk,h.get,List.contains_cons];by_cases aa:x=pk
 ·subst aa
  rw [f7 C,U];simp
 ·rw [f4 aa,show (x==pk)=false by rw [beq_eq_false_iff_ne];exact aa,ak4]
structure FI (n:Nat) (order:List Int):Prop where
 nodup:order.Nodup
 lt:∀ x∈order,0≤x∧x<n
theorem FI.len {n:Nat} {order:List Int} (h:FI n order):order.length≤n:=by
 have ad:order ⊆ (ak6 n).map (fun i:Nat=>(i:Int)):=fun x aa=>by
  have:=h.lt x aa;exact ae'.2 ⟨x.toNat,al4.2 ak,by omega⟩
 have:=List.Nodup.length_le_of_subset h.nodup ad;simpa using this
section
variable {P:Program} {Γ:cz} {N:Nat} {l:List Oper} {i:Nat} {rest:List Oper} {Q:b8→Env→ao→Prop} {env:Env} {s:ao} {o:Oper} {d:Nat}
theorem aS.adu {L R c':a6} {AR:Nat} {d':ds} (aP:bX P Γ) (I:Ok s L) {t T:TypeId} {x y:Operand} {eu:bQ} {b off:Nat} {cs us:List ag} {v:ag} (cs':List ag) (ay:dO l env o) (aA:o.dst=none) (aC:fA l.toArray (2^i-1) (idxs 0 l)=[i])
  (cG:o.op = .store t x y) (aN:Γ.get? t=some eu) (aa:aL (cF l env o) x=some (.ptr b off)) (ar:aL (cF l env o) y=some v)
  (aD:cellsOf v=some us) (hu:aj4 us.length eu.size=true) (U:us.all eZ=true) (al:bm L (.own b) (.box T cs) R) (er:off+us.length≤cs.length) (he:c5 off us cs=cs') (adv:bm ((.own b,.box T cs')::R) (.own AR) d' c')
  (h:Ok s ((.own b,.box T cs')::R)→aS (fun an=>an AR=some d') P Γ N l (i+1) rest Q env (aT s ((.own b,.box T cs')::R))):aS (fun an=>an AR=some d') P Γ N l i (o::rest) Q env (aT s L):=by
 subst he;exact aS.NF ay aA aC (aX.cC aP I cG aN aa ar aD hu U al (by simpa [ay1] using er) (X:=fun _ _=>False)) (fun x an ⟨bT,bI⟩=>by subst bT;exact adv.get bI) (fun x an ⟨bT,bI⟩=>by subst bT;exact h bI) (fun _ _ h=>h.elim)
end
def Kl (N:List xu) (order:List Int) (y:Int):Prop:=∀ x,N[y.toNat]? = some x→x.atom≥0→x.no∈order∧x.yes∈order
theorem Kl.mono {N:List xu} {o o':List Int} {y:Int} (h:Kl N o y) (al:∀ z∈o,z∈o'):Kl N o' y:=fun x aa bp=>⟨al _ (h x aa bp).1,al _ (h x aa bp).2⟩
theorem Km {order:List Int} (av:order.Nodup) {i:Nat} {x:Int} (aa:order[i]? = some x):placeOf order x=(i:Int):=by
 obtain ⟨U,ad⟩:=ac'.1 aa;have:order.findIdx? (· == x)=some i:=by
  rw [ak8];refine ⟨U,by rw [ad];simp,fun j aK=>?_⟩;rw [Bool.not_eq_true,beq_eq_false_iff_ne];intro he;have:=(aB6 av).1 (he.trans ad.symm);omega
 unfold placeOf;rw [this];rfl
def Cz (n:Nat) (order:List Int) (j:Nat) (R:List Int):Prop:=R.length=n∧∀ (i:Nat) (x:Int),i<j→order[i]? = some x→R[x.toNat]? = some ((order.length:Int)-1-i)
theorem Cz.step {n:Nat} {order:List Int} (ai:FI n order) {j:Nat} {R:List Int} (h:Cz n order j R) {a:Nat} (bp:order[j]? = some (a:Int)):Cz n order (j+1) (R.set a ((order.length:Int)-1-j)):=by
 have oZ:=ai.lt _ (d8 bp);refine ⟨by rw [List.length_set];exact h.1,fun i x aQ aa=>?_⟩;have j1:=ai.lt _ (d8 aa);by_cases ft:i=j
 ·subst ft
  rw [bp] at aa;cases aa;rw [ai7,List.getElem?_set_self (by rw [h.1];omega)]
 ·have cN:x≠(a:Int):=fun e=>by
   have U:=Km ai.nodup aa;have ad:=Km ai.nodup bp;rw [e,ad] at U;omega
  rw [List.getElem?_set_ne ak];exact h.2 i x ak aa
theorem Cz.all {n:Nat} {order:List Int} (ai:FI n order) {R:List Int} (h:Cz n order order.length R) {x:Int} (aa:x∈order):R[x.toNat]? = some ((order.length:Int)-1-placeOf order x):=by
 obtain ⟨i,aQ⟩:=an6 aa;rw [Km ai.nodup aQ];exact h.2 i x (ac'.1 aQ).1 aQ
def f' (p:aU) (n:Int) (cP vs:ag) (aq dL:Nat):List ag:=[.aF 3 (p.ch.map gX) .a7,.int .i64 p.bB,br p.dX,.aF 9 (p.methods.map hE) .a7,.aF 3 (p.nodes.map ff) .a7,.int .i64 p.main,.int .i64 n,fk (bU p).ps,br (bU p).owner,cP,vs,.map aq,.map dL]
def oK (p:aU) (n:Int) (di aq dL:Nat) (bD:h6) (l:List ae):a6:=(.own di,.box 206 (f' p n (sg bD l) (.aF 0 [] .nil) aq dL))::(.own aq,.map [])::(.own dL,.map [])::eV bD
def gr (l:List ae):ag := .aF 6 (l.map ae.bh) .a7
def adw (p:aU) (n:Int) (o:eS) (K:a6):Prop:=
 (km p n=0∧∃ di aq dL,o = .ret (.bW [.ptr di 0,.int .i64 0])∧K=[(.own di,.box 206 (f' p n (gr (dG p n)) (.aF 0 [] .nil) aq dL)),(.own aq,.map []),(.own dL,.map [])]) ∨
 (km p n≠0∧(∃ v,o = .ret (.bW [v,.int .i64 (km p n)]))∧K=[])
theorem R0 {cs:List ag} {l:List ae} {x:ae} {zc:List ag} (bO:zc.length=6) (h:cs.take ((l.length+1)*6)=(l.map ae.cells).flatten++zc) :
  (c5 (l.length*6) x.cells cs).length=cs.length∧(c5 (l.length*6) x.cells cs).take ((l.length+1)*6)=(l.map ae.cells).flatten++x.cells:=by
 have U:=Rl (sz:=6) (cs:=cs) (xss:=l.map ae.cells++[zc]) (n:=l.length+1) (j:=l.length) (ys:=zc) (ys':=x.cells) (fun c aw=>by
  rcases ab'.1 aw with aw|aw
  ·exact wh l c aw
  ·rw [i7.1 aw];exact bO) (by rw [h];simp) (by rw [ak0 bc];simp) C
 refine ⟨U.1,U.2.trans ?_⟩;rw [ap0 _ _ bc];simp
theorem Kn (p:aU) (aB:e3 p) (n:Int):bs d4 139 [cQ p,.int .i64 n] [] (adw p n):=by
 have aq:=bx;have hw:=Ff p aB;have p1:=aB.dX;have jI:=aB.ya;have gB:km p n=km p n:=rfl
 conv at gB=>rhs;unfold km
 refine bs.bj ah Tryz.func139 C C fun s I=>?_
 unfold cQ cj at *;cases bu:cS p with
 | false=>
  rw [bu] at hw;simp only [aj2,al0] at hw;rw [bu,aa',f4 bc] at gB;refine ej ?_;exact Fin.bz I C aH .nil (.inr ⟨by omega,⟨_,by rw [gB]⟩,rfl⟩)
 | true=>
 rw [bu,f7 C,f7 C] at hw;rw [bu,i8] at gB;have Ko:vS p n=(decide (n≥0)&&decide (n<(p.dX.length:Int))):=rfl;obtain ⟨adx,ady⟩:=r2 bu;refine ej ?_;by_cases l':n<0
 ·refine ab.fM 23 C (i6 l') ?_
  rw [Ko,show decide (n≥0)=false by simp;omega,aa',f4 bc] at gB;refine bd ?_;exact Fin.bz I C aH .nil (.inr ⟨by omega,⟨_,by rw [gB]⟩,rfl⟩)
 refine ab.eP 23 C (M2 l') ?_;refine jQ ?_;refine af.cond C (fun ld=>?_) (fun ld=>?_)
 ·rw [Ko,show decide (n<(p.dX.length:Int))=false by simp [br] at ld ⊢;omega,an3,f4 bc] at gB
  refine o3 ?_;exact Fin.bz I C aH .nil (.inr ⟨by omega,⟨_,by rw [gB]⟩,rfl⟩)
 rw [Ko,show decide (n<(p.dX.length:Int))=true by simp [br] at ld ⊢;omega,show decide (n≥0)=true by simp;omega,f7 (by rfl)] at gB;refine fc ?_;refine ab.ou I C C C C (fun dH I=>?_);refine ab.ou I C C C C (fun dL I=>?_);refine cq C ?_;refine ab.h0 I C C C C C C (fun di I=>?_);refine ej ?_;refine af.cc [1,8,38,39] C I (σ:=Nat×h6×List ae) (fun q=>[(40,.int .i64 (q.1:Int))]) (fun q=>oK p n di dH dL q.2.1 q.2.2)
  (fun q=>q.1≤p.methods.length∧Ft q.2.1 q.2.2∧j8 (bU p) q.2.2∧q.2.2.length≤24*q.1∧dG p n=(p.methods.drop q.1).foldl (mC n) q.2.2) (fun q=>p.methods.length-q.1) (0,none,[])
  ⟨g9 _,rfl,(fun x h=>absurd h List.not_mem_nil:j8 (bU p) []),g9 _,rfl⟩ (cy C) (by simp only [oK,eV,f',sg];exact a') ?_
 rintro ⟨j,bD,l⟩ ⟨aK,dt,gZ,lx,aG⟩ I
 try simp only at aK dt gZ lx aG I ⊢
 refine cl ?_;refine af.cond C (fun au=>?_) (fun aV=>?_);rotate_left
 ·have aV:j=p.methods.length:=by simp at aV;omega
  rw [fe ak,aC5] at aG;subst aG;unfold oK at I ⊢;rcases bD with _|⟨g,cap,cs⟩
  ·have bn:dG p n=[]:=dt
   have js:gr (dG p n) = .aF 6 [] .a7:=by rw [bn];rfl
   refine af.ig I (f' p n (gr (dG p n)) (.aF 0 [] .nil) dH dL) .here (by
    rw [js];unfold f'
    repeat (first|exact b5.nil|refine b5.cons (by first|exact aH|exact aR.empty) ?_)) (fun I=>?_)
   unfold gr at I ⊢;refine c9 I ?_;intro I;refine af.cond C (fun gL=>?_) (fun gL=>?_)
   ·have gL:¬ (dG p n).length≤7:=by simp [bn] at gL ⊢ <;> omega
    rw [f4 gL] at gB;refine o3 ?_;exact Fin.bz I C aH .nil (.inr ⟨by omega,⟨_,by rw [gB]⟩,rfl⟩)
   ·have gL:(dG p n).length≤7:=by simp [bn] at gL ⊢ <;> omega
    rw [f7 gL] at gB;refine bd ?_;exact Fin.bz I C aH (by simp only [f'];exact a') (.inl ⟨gB,di,dH,dL,rfl,rfl⟩)
  ·obtain ⟨oY,qx,CA⟩:=dt
   unfold eV f' sg at I ⊢;refine af.Cp I 9 .here (.there (.there .here)) C CA (f6 _) (wh _) qx ak (fun I=>?_);have js:((dG p n).map ae.cells).map ag.agg=(dG p n).map ae.bh:=by
    rw [ax7];exact at4 (fun x _=>(ae.bJ x).symm)
   rw [js] at I ⊢
   try unfold gr at I
   refine c9 I ?_;intro I;refine af.cond C (fun gL=>?_) (fun gL=>?_)
   ·have gL:¬ (dG p n).length≤7:=by simp [Nat.not_le] at gL ⊢ <;> omega
    rw [f4 gL] at gB;refine o3 ?_;exact Fin.bz I C aH .nil (.inr ⟨by omega,⟨_,by rw [gB]⟩,rfl⟩)
   ·have gL:(dG p n).length≤7:=by simp [Nat.not_le] at gL ⊢ <;> omega
    rw [f7 gL] at gB;refine bd ?_;exact Fin.bz I C aH (by simp only [f'];exact a') (.inl ⟨gB,di,dH,dL,rfl,rfl⟩)
 have au:j<p.methods.length:=by simpa using au
 obtain ⟨m,aa,bY⟩:=b' (f:=hE) au;have gV:=d8 aa;have b6:=aB.facts m gV;have lY:=qX bu gV;have m0:=xz _ _ _ _ lY;have oZ:=Pa lY;have Kp:=BS m.fact _ m0;have yq:=ab1 m.fact;have kX:=ab0 m.fact ak;rw [ae.bJ] at yq;unfold ae.cells at yq kX;rw [drop_cons aa,ak9] at aG;unfold hE lT at bY;refine ej ?_;refine af.cond C (fun ay=>?_) (fun ay=>?_)
 ·have ay:m.gen≠n:=by simpa using ay
  rw [show mC n l m=l by unfold mC;rw [f4 ay]] at aG;refine fb ?_;exact bA.mk (j+1,bD,l) I ⟨au,dt,gZ,by show l.length≤24*(j+1);omega,aG⟩ ct (az.all _) r8
 have ay:m.gen=n:=by simpa using ay
 rw [show mC n l m=(kF m.fact).foldl jl l by unfold mC;rw [f7 ay]] at aG;refine dS ?_;refine af.zb I C dh kX .nil (fun rem K=>∃ yu cp,Ft yu cp∧j8 (bU p) cp∧cp.length+rem.length≤24*(j+1)∧(∀ x∈rem,dU (bU p) x=true∧x.c7=true)∧(kF m.fact).foldl jl l=rem.foldl jl cp∧K=oK p n di dH dL yu cp) (fun _ _=>False) (fun _ _=>False) ⟨bD,l,dt,gZ,by omega,Kp,rfl,rfl⟩ ?_ ?_ (fun _ _ h=>h.elim) (fun _ _ h=>h.elim);rotate_left
 ·rintro K ⟨yu,cp,vW,Kp,cV,-,k3,rfl⟩ I
  rw [k3,aC5] at aG;refine eF ?_;exact bA.mk (j+1,yu,cp) I ⟨au,vW,Kp,by show cp.length≤24*(j+1);simpa using cV,aG⟩ ct (az.all _) r8
 rintro s₁ x rem K ⟨yu,cp,vW,FJ,cV,pE,k3,rfl⟩ I;have Kq:=pE x g8;have ag2:=BT Kq.1 Kq.2;have Kr:=fun f11=>ab5 yu cp ak vW f11 x ak (fun y ar=>by have:=BT (FJ y ar).1 (FJ y ar).2;omega)
 rw [ak9] at k3;rw [ae.bJ];unfold ae.cells;have cm:=vB x.path .a7 ak;have CB:jl cp x=if cp.any (fun y=>fZ y x) then cp else cp++[x]:=rfl
 have FK:j8 (bU p) (cp++[x]):=fun y ar=>by
  rcases ab'.1 ar with ar|ar
  ·exact FJ y ar
  ·rw [i7.1 ar];exact Kq
 have FL:(cp++[x]).length+rem.length≤24*(j+1):=by
  simp only [i9,f0,ai9] at cV ⊢;omega
 have qA:(cp++[x]).map ae.cells=cp.map ae.cells++[x.cells]:=by simp
 have FM:((cp++[x]).map ae.cells).flatten=(cp.map ae.cells).flatten++x.cells:=by rw [qA];simp
 have uN:(cp++[x]).length=cp.length+1:=by simp
 unfold oK at I ⊢;rcases yu with _|⟨g,cap,cs⟩
 all_goals
  simp only [eV,sg,pD,ae.cells] at Kr;simp only [eV,sg,f'] at I ⊢
 ·have bn:cp=[]:=vW
  subst bn
  repeat (first|(refine Hu I ?_;clear I;intro I)|refine ab.c3 ah I rfl rfl rfl rfl rfl rfl rfl (fun cu I=>?_))
  refine ab.bL rfl rfl rfl rfl rfl (Kr cu) I a' ?_ (fun _ _ ⟨h,_⟩ _=>by cases h);rintro _ _ ⟨⟨⟩,rfl⟩ I;simp only [d0,d5] at I ⊢;have jW:([]:List ae).any (fun y=>fZ y x)=false:=rfl;refine c9 I ?_;intro I;refine af.oW ah mixed C (bb.run C ?_);refine bb.c3 0 ah I C C C C C C C C C (fun R1 I=>?_);refine bb.run C ?_;refine bb.many C (de.c (fq.jP (i:=1) C C C (aX.cC ah I C C C C C C C aO C (X:=fun _ _=>False)) ?_ (fun _ _ h=>False.elim h)) (de.c (fq.jP (i:=2) C C C (aX.cC ah I C C C C C C C aO C (X:=fun _ _=>False)) ?_ (fun _ _ h=>False.elim h)) de.n))
  ·rintro _ _ ⟨rfl,I⟩
   refine bb.run C ?_;refine bb.cC 2 ah I C C C C C C C C C C C aO bZ (fun I=>?_);refine bb.run C ?_;refine bb.dY 3 ah I C C C C C C C C aO bZ ?_;refine bb.run C ?_;refine bb.done C ?_;refine jR ?_;refine af.sK (e6 [(di,_),(cu,_)]) ah mixed C (bH.run (e6.two (bm.get aO I) (bm.get aO I)) C ?_);refine bH.vo 4 ah (e6.two (bm.get aO I) (bm.get aO I)) C C C C C C C C (fun _ h=>e6.fst h) bZ ?_;refine bH.vo 5 ah (e6.two (bm.get aO I) (bm.get aO I)) C C C C C C C C (fun _ h=>e6.snd h) bZ ?_;refine bH.run (e6.two (bm.get aO I) (bm.get aO I)) C ?_;refine bH.yj 7 ah I C C C C C C C C C dB C C C C C C C dh (fun fp iz hV I _=>(e6.two (bm.get aO I) (bm.get aO I))) (fun fp iz hV cx cE dz I=>?_);refine bH.run (e6.two (bm.get aO I) (bm.get aO I)) C ?_;refine bH.cC 10 ah I C C C C C C C C C C C aO bZ (fun _ => .inr C) (fun I=>?_);refine bb.done C ?_;refine eF ?_;exact At.mk (oK p n di dH dL (some (fp,iz,hV)) ([]++[x])) I (by simp only [oK,eV,sg,f',uN];exact a') ⟨some (fp,iz,hV),[]++[x],⟨cx,(by simpa using cE),by rw [FM];exact dz⟩,FK,FL,fun y ar=>pE y (f9 _ ar),by rw [k3,CB,jW];rfl,rfl⟩
  ·rintro _ _ ⟨rfl,I⟩
   refine bb.run C ?_;refine bb.cC 1 ah I C C C C C C C C C C C aO bZ (fun I=>?_);refine bb.run C ?_;refine bb.dY 3 ah I C C C C C C C C aO bZ ?_;refine bb.run C ?_;refine bb.done C ?_;refine c9 I ?_;intro I;refine ab.tp ah C C C C C C C C C C ?_;refine ab.yj ah I C C C C C C C dB C C C C C C C dh (fun fp iz hV cx cE dz I=>?_);refine c9 I ?_;intro I;refine ab.lq ah ([]:List ae).length C C C C C C C C C C bc ?_;refine ab.lv ah I _ C C C C C C C C C aO (by rw [cx];show ([]:List ae).length*6+6≤iz*6;simp only [ai9] at *;omega) C (fun I=>?_);obtain ⟨bT,bI⟩:=R0 (x:=x) (l:=([]:List ae)) (cs:=hV) (zc:=_) rfl dz;refine eF ?_;exact At.mk (oK p n di dH dL (some (fp,iz,(c5 (([]:List ae).length*6) x.cells hV))) ([]++[x])) I (by simp only [oK,eV,sg,f',uN];exact a') ⟨some (fp,iz,(c5 (([]:List ae).length*6) x.cells hV)),[]++[x],⟨bT.trans cx,(by simpa using cE),by rw [FM];exact bI⟩,FK,FL,fun y ar=>pE y (f9 _ ar),by rw [k3,CB,jW];rfl,rfl⟩
 ·obtain ⟨oY,qx,CA⟩:=vW
  repeat (first|(refine Hu I ?_;clear I;intro I)|refine ab.c3 ah I rfl rfl rfl rfl rfl rfl rfl (fun cu I=>?_))
  refine ab.bL rfl rfl rfl rfl rfl (Kr cu) I a' ?_ (fun _ _ ⟨h,_⟩ _=>by cases h);rintro _ _ ⟨⟨⟩,rfl⟩ I;simp only [d0,d5] at I ⊢;cases jW:cp.any (fun y=>fZ y x) with
  | true=>
   refine bd ?_;exact At.mk (oK p n di dH dL (some (g,cap,cs)) cp) I (by simp only [oK,eV,sg,f'];exact a') ⟨some (g,cap,cs),cp,⟨oY,qx,CA⟩,FJ,by simp only [i9] at cV;omega,fun y ar=>pE y (f9 _ ar),by rw [k3,CB,jW];rfl,rfl⟩
  | false=>
  refine c9 I ?_;intro I;refine af.oW ah mixed C (bb.run C ?_);refine bb.c3 0 ah I C C C C C C C C C (fun R1 I=>?_);refine bb.run C ?_;refine bb.many C (de.c (fq.jP (i:=1) C C C (aX.cC ah I C C C C C C C aO C (X:=fun _ _=>False)) ?_ (fun _ _ h=>False.elim h)) (de.c (fq.jP (i:=2) C C C (aX.cC ah I C C C C C C C aO C (X:=fun _ _=>False)) ?_ (fun _ _ h=>False.elim h)) de.n))
  ·rintro _ _ ⟨rfl,I⟩
   refine bb.run C ?_;refine bb.cC 2 ah I C C C C C C C C C C C aO bZ (fun I=>?_);refine bb.run C ?_;refine bb.dY 3 ah I C C C C C C C C aO bZ ?_;refine bb.run C ?_;refine bb.done C ?_;refine jR ?_;refine af.sK (e6 [(di,_),(cu,_)]) ah mixed C (bH.run (e6.two (bm.get aO I) (bm.get aO I)) C ?_);refine bH.vo 4 ah (e6.two (bm.get aO I) (bm.get aO I)) C C C C C C C C (fun _ h=>e6.fst h) bZ ?_;refine bH.vo 5 ah (e6.two (bm.get aO I) (bm.get aO I)) C C C C C C C C (fun _ h=>e6.snd h) bZ ?_;refine bH.run (e6.two (bm.get aO I) (bm.get aO I)) C ?_;refine bH.uF 7 ah I C C C C C C C C C dB C C C C aO oY qx C C C C q' ak (fun fp iz hV I _=>(e6.two (bm.get aO I) (bm.get aO I))) (fun fp iz hV cx cE dz I=>?_);refine bH.run (e6.two (bm.get aO I) (bm.get aO I)) C ?_;refine bH.cC 10 ah I C C C C C C C C C C C aO bZ (fun _ => .inr C) (fun I=>?_);refine bb.done C ?_;refine eF ?_;exact At.mk (oK p n di dH dL (some (fp,iz,hV)) (cp++[x])) I (by simp only [oK,eV,sg,f',uN];exact a') ⟨some (fp,iz,hV),cp++[x],⟨by rw [uN] at *;exact cx,by rw [uN];exact cE,by rw [FM,uN,← CA];exact dz⟩,FK,FL,fun y ar=>pE y (f9 _ ar),by rw [k3,CB,jW];rfl,rfl⟩
  ·rintro _ _ ⟨rfl,I⟩
   refine bb.run C ?_;refine bb.cC 1 ah I C C C C C C C C C C C aO bZ (fun I=>?_);refine bb.run C ?_;refine bb.dY 3 ah I C C C C C C C C aO bZ ?_;refine bb.run C ?_;refine bb.done C ?_;refine c9 I ?_;intro I;refine ab.oy ah C C C C C C C ?_;skip;refine ab.tp ah C C C C C C C C C C ?_;refine ab.uF ah I C C C C C C C dB C C C C aO oY qx C C C C q' ak (fun fp iz hV cx cE dz I=>?_);refine c9 I ?_;intro I;refine ab.lq ah cp.length C C C C C C C C C C bc ?_;refine ab.lv ah I _ C C C C C C C C C aO (by rw [cx];show cp.length*6+6≤iz*6;simp only [ai9] at *;omega) C (fun I=>?_);obtain ⟨bT,bI⟩:=R0 (x:=x) (l:=cp) (cs:=hV) (zc:=_) rfl (by rw [← CA];exact dz);refine eF ?_;exact At.mk (oK p n di dH dL (some (fp,iz,(c5 (cp.length*6) x.cells hV))) (cp++[x])) I (by simp only [oK,eV,sg,f',uN];exact a') ⟨some (fp,iz,(c5 (cp.length*6) x.cells hV)),cp++[x],⟨bT.trans cx,by rw [uN];exact cE,by rw [FM,uN];exact bI⟩,FK,FL,fun y ar=>pE y (f9 _ ar),by rw [k3,CB,jW];rfl,rfl⟩
def hH (p:aU) (n:Int) (cP vs:ag) (aq dL di:Nat):bM×ds:=(.own di,.box 206 (f' p n cP vs aq dL))
theorem adz (x f:ae) (aa:x.path.length<bK) (aZ:f.path.length<bK):cY d4 (.func 263 [] [.bl f.cells 0]) [x.bh] (.bool (fZ x f)):=by
 have U:=NH x f aa aZ;have U:aY d4 201 [x.bh,f.bh] (.bool (fZ x f)):=U;refine cY.ey (first:=[]) (cap:=[.bl f.cells 0]) ?_;refine aY.bj ah Tryz.func263 C C fun s I=>?_
 rw [ae.bJ,ae.bJ] at U;rw [ae.bJ];unfold ae.cells at *;refine gw ?_;exact b2 I
def CC (l:List ae) (f:ae):Prop:=∀ x∈kF f,l.any (fun y=>fZ y x)=true
theorem R2:∀ {ks:List ae} {k x:ae},k∈ks→x∈kF k→x∈oE ks
  | y::r,k,x,h,aa=>by
    rw [oE];rcases ai1.1 h with rfl|h
    · exact al3 _ aa
    · exact List.mem_append_right _ (R2 h aa)
theorem CC.kE {l:List ae} {f k:ae} (h:CC l f) (aE:f.c7=false) (ax:k∈f.kids):CC l k:=fun x aa=>h x (by
 rw [IJ,aE,f4 bc];exact R2 ax aa)
theorem adA (p:aU) (n:Int) (l:List ae) (vs:ag) (aq dL di:Nat) (w:bo) (n4:l.length≤7) (gZ:j8 w l) (v:Nat) (aD:v<2^63):∀ (k:Nat) (f:ae),f.size≤k→dU w f=true→CC l f →
    bs d4 203 [.ptr di 0,f.bh,.int .i64 (v:Int)] [hH p n (gr l) vs aq dL di] (fun o K=>o = .ret (.bool (ux l v f))∧K=[hH p n (gr l) vs aq dL di]):=by
  have w3:bK=1099511627776:=rfl;intro k
  induction k with
  | zero=>intro x h;have:=x.size_eq;omega
  | succ k a8=>
    intro f av ay dc;have o6:=f.size_eq;have kl:=ZI l v f;have si:=ay;rw [p0,d6] at ay;obtain ⟨Eg,uh⟩:=ay;refine bs.bj ah Tryz.func203 C C fun s I=>?_
    rw [ae.bJ];unfold hH f' gr at *;rcases Ef Eg with ⟨U,ad⟩|⟨aE,ad,U⟩|⟨U,x,ad⟩|⟨U,x,y,ad⟩
    · rw [U,f7 C] at kl
      rw [kl];unfold ae.cells;rw [U];refine bd ?_;exact Fin.bz I C aH (az.all _) ⟨rfl,rfl⟩
    · have cG:f.op=2∨f.op=3∨f.op=4:=by unfold ae.c7 at aE;simp at aE;omega
      have CD:=BT si aE;have jW:=dc f (by rw [IJ,aE,f7 C];exact i7.2 C);obtain ⟨i,aQ⟩:∃ i,l.findIdx? (fun x=>fZ x f)=some i:=by
        cases h:l.findIdx? (fun x=>fZ x f) with
        | some i=>exact ⟨i,rfl⟩
        | none=>
          rw [am6] at h;obtain ⟨z,bO,Df⟩:=ai6.1 jW;rw [h z bO] at Df;cases Df
      have uk:i<l.length:=(ak8.1 aQ).1;have kL:=XR (.func 263 [] [.bl f.cells 0]) (fun x=>fZ x f) l ak (fun x aa=>adz x f (by have:=BT (gZ x aa).1 (gZ x aa).2;omega) ak);rw [aQ] at kL;simp only at kL;have kl:ux l v f=v.testBit i:=by
        rw [kl,f4 ak,f4 ak,f4 ak,f4 ak,aQ]
      rw [kl,← Rb];unfold ae.cells at kL ⊢;rcases cG with h|h|h
      all_goals
        rw [h] at kL ⊢;refine hC I ?_;intro I;refine ab.shr _ C C C C C C ak (Bj ak) ?_;refine ab.bits _ C C C C C C (HG (n:=1) (as5 (aA7 v i) aD) ak) ?_;refine eB ?_;exact Fin.bz I C aH (az.all _) ⟨rfl,rfl⟩
    · have aE:f.c7=false:=by unfold ae.c7;rw [U];rfl
      have aa:=ae.hg (l:=f.kids) (x:=x) qK;have i1:=a8 x ak (o5 uh qK) (dc.kE aE qK);have bT:([x].map ae.bh)[0]? = some (.agg x.cells):=by rw [← ae.bJ];rfl
      rw [U,f4 ak,f7 C,ad,EJ l v 0 [x] x C] at kl;rw [kl];rw [ae.bJ] at i1;unfold ae.cells;rw [U,ad];refine bd ?_;refine ab.bL rfl rfl rfl rfl rfl i1 I (az.all _) ?_ (fun _ _ ⟨h,_⟩ _=>by cases h);rintro _ _ ⟨⟨⟩,rfl⟩ I;rw [d7] at I ⊢;refine bd ?_;exact Fin.bz I C aH (az.all _) ⟨rfl,rfl⟩
    · have aE:f.c7=false:=by unfold ae.c7;rcases U with U|U<;>rw [U]<;>rfl
      have aa:=ae.hg (l:=f.kids) (x:=x) qK;have ar:=ae.hg (l:=f.kids) (x:=y) (by rw [ad];simp);have i1:=a8 x ak (o5 uh qK) (dc.kE aE qK);have i2:=a8 y ak (o5 uh (by rw [ad];simp)) (dc.kE aE (by rw [ad];simp));have bT:([x,y].map ae.bh)[0]? = some (.agg x.cells):=by rw [← ae.bJ];rfl
      have bI:([x,y].map ae.bh)[1]? = some (.agg y.cells):=by rw [← ae.bJ];rfl
      rw [ae.bJ] at i1 i2;rw [ad,EJ l v 0 [x,y] x C,EJ l v 1 [x,y] y C] at kl;unfold ae.cells;rw [ad];rcases U with U|U
      all_goals
        rw [U] at kl ⊢;cases R3:ux l v x with
        | true=>
          rw [R3] at kl i1;simp at kl;rw [kl];refine bd ?_;refine ab.bL rfl rfl rfl rfl rfl i1 I (az.all _) ?_ (fun _ _ ⟨h,_⟩ _=>by cases h);rintro _ _ ⟨⟨⟩,rfl⟩ I;rw [d7] at I ⊢;refine bd ?_
          first
            | exact Fin.bz I C aH (az.all _) ⟨rfl,rfl⟩
            | (refine ab.bL rfl rfl rfl rfl rfl i2 I (az.all _) ?_ (fun _ _ ⟨h,_⟩ _=>by cases h)
               rintro _ _ ⟨⟨⟩,rfl⟩ I
               rw [d7] at I ⊢
               refine bd ?_
               exact Fin.bz I C aH (az.all _) ⟨rfl,rfl⟩)
        | false=>
          rw [R3] at kl i1;simp at kl;rw [kl];refine bd ?_;refine ab.bL rfl rfl rfl rfl rfl i1 I (az.all _) ?_ (fun _ _ ⟨h,_⟩ _=>by cases h);rintro _ _ ⟨⟨⟩,rfl⟩ I;rw [d7] at I ⊢;refine bd ?_
          first
            | exact Fin.bz I C aH (az.all _) ⟨rfl,rfl⟩
            | (refine ab.bL rfl rfl rfl rfl rfl i2 I (az.all _) ?_ (fun _ _ ⟨h,_⟩ _=>by cases h)
               rintro _ _ ⟨⟨⟩,rfl⟩ I
               rw [d7] at I ⊢
               refine bd ?_
               exact Fin.bz I C aH (az.all _) ⟨rfl,rfl⟩)
theorem R4 (gen:Int) (l:List ae) (v:Nat):∀ (ms:List hh) (i:Nat),(pt gen l v i ms).length≤ms.length
  | [],_=>t7 _
  | m::r,i=>by
    have:=R4 gen l v r (i+1);rw [pt];split<;>simp<;>omega
def FN (p:aU) (n:Int) (l:List ae):Prop:=∀ m∈p.methods,m.gen=n→CC l m.fact
theorem R5 (p:aU) (aB:e3 p) (bu:cS p=true) (n:Int) (l:List ae) (vs:ag) (aq dL di:Nat) (n4:l.length≤7) (gZ:j8 (bU p) l) (jz:FN p n l) (v:Nat) (aD:v<2^63) :
  bs d4 141 [.ptr di 0,.int .i64 (v:Int)] [hH p n (gr l) vs aq dL di] (fun o K=>o = .ret (br (jH p n l v))∧K=[hH p n (gr l) vs aq dL di]):=by
 have w3:bK=1099511627776:=rfl;obtain ⟨adx,ady⟩:=r2 bu;have adB:=fun f U ad=>adA p n l vs aq dL di (bU p) n4 gZ v aD f.size f (t7 _) U ad
 refine bs.bj ah Tryz.func141 C C fun s I=>?_
 unfold hH f' at *;refine hC I ?_;intro I;refine af.hv I 3 1 0 fun I=>?_
 refine af.cc [0,1,12,13] C I (σ:=Nat×List Int×bM) (fun q=>[(14,.int .i64 (q.1:Int)),(5,.aF 1 (q.2.1.map ba) q.2.2)]) (fun q=>[(q.2.2,.row 3 1 q.2.1.length),hH p n (gr l) vs aq dL di]) (fun q=>q.1≤p.methods.length∧q.2.1.length≤q.1∧jH p n l v=q.2.1++pt n l v q.1 (p.methods.drop q.1)) (fun q=>p.methods.length-q.1) (0,[],.nil)
  ⟨g9 _,t7 _,rfl⟩ ⟨⟨_,rfl,aH⟩,⟨_,rfl,aR.nil gF⟩,trivial⟩ (by simp only [hH,f'];exact a') ?_
 rintro ⟨j,out,hj⟩ ⟨aK,gq,aG⟩ I;simp only [hH,f'] at aK gq aG I ⊢;refine cl ?_;refine af.cond C (fun au=>?_) (fun aV=>?_);rotate_left
 ·have aV:j=p.methods.length:=by simp at aV;omega
  rw [fe ak,pt,d7] at aG;rw [aG];refine fb ?_;exact Fin.bz (K:=[hH p n (gr l) vs aq dL di]) I C aR.a7 (by simp only [hH,f'];exact a') ⟨rfl,rfl⟩
 have au:j<p.methods.length:=by simpa using au
 obtain ⟨m,aa,bY⟩:=b' (f:=hE) au;have gV:=d8 aa;rw [drop_cons aa,pt] at aG;unfold hE lT at bY;by_cases ay:m.gen=n
 ·have c4:=adB m.fact (xz _ _ _ _ (qX bu gV)) (jz m gV ay)
  rw [ae.bJ] at c4;unfold ae.cells at c4;rw [ay] at bY aG;rw [show decide (n=n)=true by simp,i8] at aG
  repeat (first|(refine vr I ?_;clear I;intro I)|refine ab.c3 ah I rfl rfl rfl rfl rfl rfl rfl (fun cu I=>?_))
  refine af.im I 7 cu C .here (fun I=>?_);refine af.m7 I di (.there .here) ah mixed C ?_;refine kU ?_;refine aS.split 26 C (fun _=>?_) (fun h=>by simp at h);refine kV ?_;refine aS.Fx rfl rfl rfl rfl rfl rfl c4 I a' (fun _ _ h=>by obtain ⟨-,rfl⟩:=h;exact ⟨_,.here⟩) ?_ (fun _ _ ⟨h,_⟩ _=>by cases h);rintro _ _ ⟨⟨⟩,rfl⟩ I;simp only [d5,d0] at I ⊢;cases lK:ux l v m.fact with
  | true=>
   rw [lK,f7 C] at aG;refine dS ?_;refine ab.gn ah I C C C C C C C dB C C C C C C C C aO h' lP ak (fun b1 I=>?_);refine iQ ?_;exact bA.mk (j+1,out++[(j:Int)],.own b1) I ⟨au,by simp;omega,by rw [aG];simp⟩ (by repeat (first|exact trivial|refine ⟨⟨_,rfl,aH⟩,?_⟩|refine ⟨⟨_,rfl,aR.of_eq Ii⟩,?_⟩)) (by show az _ [(_,.row _ _ (out++[(j:Int)]).length),hH p n (gr l) vs aq dL di] _;rw [f0];exact (by simp only [hH,f'];exact a')) r8
  | false=>
   rw [lK,f4 bc] at aG;refine c1 ?_;exact bA.mk (j+1,out,hj) I ⟨au,by show out.length≤j+1;omega,aG⟩ ct (by simp only [hH,f'];exact a') r8
 ·rw [show decide (m.gen=n)=false by simpa using ay,aa',f4 bc] at aG
  repeat (first|(refine vr I ?_;clear I;intro I)|refine ab.c3 ah I rfl rfl rfl rfl rfl rfl rfl (fun cu I=>?_))
  refine af.im I 7 cu C .here (fun I=>?_);refine af.m7 I di (.there .here) ah mixed C ?_;refine kU ?_;refine aS.split 26 C (fun h=>absurd fG ay) (fun _=>?_);refine c1 ?_;exact bA.mk (j+1,out,hj) I ⟨au,by show out.length≤j+1;omega,aG⟩ ct (by simp only [hH,f'];exact a') r8
theorem adC (v c:Nat):(((v >>> c &&& 1:Nat):Int)==0) = !v.testBit c:=by
 rw [← Rb,Nat.and_one_is_mod];have:v >>> c % 2=0∨v >>> c % 2=1:=by omega
 rcases this with h|h<;>rw [h]<;>rfl
theorem R6 (f:ae):f.not.size=1+f.size:=by
 unfold ae.not;rw [ae.size,ae.cM,ae.cM,ai9];omega
theorem R7 (f g:ae):(f.and g).size=1+f.size+g.size:=by
 unfold ae.and;rw [ae.size,ae.cM,ae.cM,ae.cM,ai9];omega
theorem R8 (p:aU) (bu:cS p=true) (n:Int) (l:List ae) (vs:ag) (aq dL di:Nat) (n4:l.length≤7) (gZ:j8 (bU p) l) (eK:l.Nodup) (v:Nat) (aD:v<2^63) :
  bs d4 140 [.ptr di 0,.int .i64 (v:Int)] [hH p n (gr l) vs aq dL di] (fun o K=>o = .ret (.bool (r1 (bU p) l v))∧K=[hH p n (gr l) vs aq dL di]):=by
 have w3:bK=1099511627776:=rfl;have Fb:=py bu;rw [← aaa gZ n4 eK v];refine bs.bj ah Tryz.func140 C C fun s I=>?_
 unfold hH f' gr at *
 repeat (first|(refine Hu I ?_;clear I;intro I)|refine ab.c3 ah I rfl rfl rfl rfl rfl rfl rfl (fun cu I=>?_))
 refine af.ig I (ae.mk 1 0 [] 0 0 []).cells (kb:=cu) aO (by
  repeat (first|exact b5.nil|refine b5.cons (by first|exact aH|exact aR.empty) ?_)) (fun I=>?_)
 obtain ⟨FO,rfl⟩:∃ x,x=cu:=⟨_,rfl⟩;skip;refine af.cc [0,1,5,14,15] C I (σ:=Nat×ae×List ag) (fun q=>[(16,.int .i64 (q.1:Int))]) (fun q=>[(.own FO,.box 57 q.2.2),hH p n (gr l) vs aq dL di]) (fun q=>b5 q.2.2 q.2.1.cells∧q.1≤l.length∧q.2.1.size≤1+6*q.1∧x8 l v=tc v q.1 (l.drop q.1) q.2.1) (fun q=>l.length-q.1) (0,.mk 1 0 [] 0 0 [],(ae.mk 1 0 [] 0 0 []).cells) ⟨b5.refl _,g9 _,by simp [ae.size,ae.cM],rfl⟩ (cy C) (by simp only [hH,f',gr];exact a') ?_;rintro ⟨j,acc,cs⟩ ⟨hle,aK,b6,aG⟩ I;simp only [hH,f',gr] at hle aK b6 aG I ⊢;refine af.ig I acc.cells (kb:=FO) aO hle (fun I=>?_);refine cl ?_;refine af.cond C (fun au=>?_) (fun aV=>?_);rotate_left
 ·have aV:j=l.length:=by simp at aV;omega
  rw [fe ak,tc] at aG;rw [aG];have aw:=ZZ (bU p) Fb acc ak;rw [ae.bJ] at aw;unfold jD fL at aw;refine af.im I 5 FO C .here (fun I=>?_);cases aZ:hi (bU p) acc with
  | true=>
   rw [aZ] at aw;simp only [i8,ak2] at aw ⊢
   repeat (first
    | refine af.m7 I di .here ah mixed C ?_
    | with_reducible apply af.seq
    | with_reducible apply cg
    | with_reducible apply kS
    | with_reducible apply iP
    | with_reducible apply kT
    | with_reducible apply af.exit)
   refine c1 ?_;exact Fin.bz I C aH (az.all _) ⟨rfl,rfl⟩
  | false=>
   rw [aZ] at aw;simp only [aa',aj2,al0] at aw ⊢
   repeat (first
    | refine af.m7 I di .here ah mixed C ?_
    | with_reducible apply af.seq
    | with_reducible apply cg
    | with_reducible apply kS
    | with_reducible apply iP
    | with_reducible apply kT
    | with_reducible apply af.exit)
   refine c1 ?_;exact Fin.bz I C aH (az.all _) ⟨rfl,rfl⟩
 have au:j<l.length:=by simpa using au
 obtain ⟨f,aa,bY⟩:=b' (f:=ae.bh) au;have CD:=gZ f (d8 aa);have CE:f.size≤3:=by
  have U:=f.size_eq;have ad:=BT CD.1 CD.2;have aj:=zD CD.1 CD.2;rw [aj,ae.cM] at U;omega
 rw [drop_cons aa,tc] at aG;rw [ae.bJ] at bY;have sn:=adC v j;unfold ae.cells at bY I ⊢
 repeat (first|(refine vr I ?_;clear I;intro I)|refine ab.c3 ah I rfl rfl rfl rfl rfl rfl rfl (fun cu I=>?_))
 refine ab.shr _ C C C C C C ak (Bj ak) ?_;refine ab.bits _ C C C C C C (HG (n:=1) (as5 (aA7 v j) aD) ak) ?_;refine jQ ?_;cases sJ:v.testBit j with
 | true=>
  rw [sJ] at sn;rw [sJ,show tb f true=f from rfl] at aG;refine af.cond C (fun h=>absurd h (by rw [sn];simp)) (fun _=>?_);cases j with
  | zero=>
   rw [f7 C] at aG;refine hC I ?_;intro I;refine bA.mk (1,f,?_) I ?_ (by repeat (first|exact trivial|refine ⟨⟨_,rfl,aH⟩,?_⟩|refine ⟨⟨_,rfl,aR.of_eq (by (rw [hf ak ak];rfl))⟩,?_⟩)) (by simp only [hH,f',gr,ae.cells];exact a') (by show l.length-1<l.length-0;omega);refine ⟨?_,au,by show ae.size f≤7;omega,aG⟩;exact b5.refl _
  | succ k=>
   rw [f4 ak] at aG;refine hC I ?_;intro I;refine bA.mk (k+2,acc.and f,?_) I ?_ (by repeat (first|exact trivial|refine ⟨⟨_,rfl,aH⟩,?_⟩|refine ⟨⟨_,rfl,aR.of_eq I2⟩,?_⟩)) (by simp only [hH,f',gr];exact a') (by show l.length-(k+2)<l.length-(k+1);omega)
   refine ⟨?_,au,(by
    have bF:ae.size f≤5:=by omega
    show (acc.and f).size≤1+6*(k+2)
    rw [R7];omega),aG⟩
   show b5 _ (acc.and f).cells;unfold ae.and ae.cells;refine .cons aH (.cons aH (.cons aR.empty (.cons aH (.cons aH (.one ?_)))));simp only [ae.kids,ai2,aj5,ae.bJ];exact aR.a7
 | false=>
  rw [sJ] at sn;rw [sJ,show tb f false=f.not from rfl] at aG;refine af.cond C (fun _=>?_) (fun h=>absurd h (by rw [sn];simp));refine hC I ?_;intro I
  refine af.ig I f.not.cells (kb:=cu) aO (by
   unfold ae.not ae.cells
   refine .cons aH (.cons aH (.cons aR.empty (.cons aH (.cons aH (.one ?_)))))
   simp only [ae.kids,ai2,aj5,ae.bJ]
   exact aR.a7) (fun I=>?_)
  cases j with
  | zero=>
   rw [f7 C] at aG;refine hC I ?_;intro I;refine bA.mk (1,f.not,?_) I ?_ (by repeat (first|exact trivial|refine ⟨⟨_,rfl,aH⟩,?_⟩|refine ⟨⟨_,rfl,aR.of_eq (by (rw [hf ak ak];rfl))⟩,?_⟩)) (by simp only [hH,f',gr,ae.cells];exact a') (by show l.length-1<l.length-0;omega);refine ⟨?_,au,by show ae.size f.not≤7;(rw [R6];omega),aG⟩;exact b5.refl _
  | succ k=>
   rw [f4 ak] at aG;refine hC I ?_;intro I;refine bA.mk (k+2,acc.and f.not,?_) I ?_ (by repeat (first|exact trivial|refine ⟨⟨_,rfl,aH⟩,?_⟩|refine ⟨⟨_,rfl,aR.of_eq I2⟩,?_⟩)) (by simp only [hH,f',gr];exact a') (by show l.length-(k+2)<l.length-(k+1);omega)
   refine ⟨?_,au,(by
    have bF:ae.size f.not≤5:=by (rw [R6];omega)
    show (acc.and f.not).size≤1+6*(k+2)
    rw [R7];omega),aG⟩
   show b5 _ (acc.and f.not).cells;unfold ae.and ae.cells;refine .cons aH (.cons aH (.cons aR.empty (.cons aH (.cons aH (.one ?_)))));simp only [ae.kids,ai2,aj5,ae.bJ];exact aR.a7
def qm (f:Nat→Bool) (o:Nat):Nat→Nat
 | 0=>0
 | n+1=>qm f o n+(if f (o+n) then 2^n else 0)
theorem R9 (f:Nat→Bool) (o:Nat):∀ n,qm f o n<2^n
  | 0=>Nat.one_pos
  | n+1=>by
    have:=R9 f o n;rw [qm,aI1];split<;>omega
theorem CF (f:Nat→Bool) (o:Nat):∀ n i,(qm f o n).testBit i=(decide (i<n)&&f (o+i))
  | 0,i=>by rw [qm];simp
  | n+1,i=>by
    have U:=R9 f o n;have ad:=CF f o n i;rw [qm];cases aZ:f (o+n) with
    | false=>
      rw [f4 bc,Nat.add_zero,ad];rcases av9 i n with h|h|h
      · rw [i6 h,i6 ak]
      · subst h;rw [aZ];simp
      · rw [M2 ak,M2 ak]
    | true=>
      rw [f7 C,Nat.add_comm];rcases av9 i n with h|h|h
      · rw [Nat.testBit_two_pow_add_gt h,ad,i6 h,i6 ak]
      · subst h
        rw [Nat.testBit_two_pow_add_eq,ad,aZ];simp
      · rw [M2 ak,aa']
        exact at8 (ap5 (show 2^n+qm f o n<2^(n+1) by rw [aI1];omega) (ap4 ak ak))
def uO (f:Nat→Bool):List Int:=[(qm f 0 64:Int),(qm f 64 64:Int)]
theorem adD {f g:Nat→Bool} (h:uO f=uO g):∀ u,u<128→f u=g u:=by
 unfold uO at h;have U:qm f 0 64=qm g 0 64:=by have:=(au7.inj h).1;omega
 have ad:qm f 64 64=qm g 64 64:=by have:=(au7.inj (au7.inj h).2).1;omega
 intro u hu;by_cases al:u<64
 ·have a:=CF f 0 64 u
  have b:=CF g 0 64 u;rw [U,b,i6 al,i8,i8,aj8] at a;exact a.symm
 ·have a:=CF f 64 64 (u-64)
  have b:=CF g 64 64 (u-64);rw [ad,b,i6 ak,i8,i8,show 64+(u-64)=u by omega] at a;exact a.symm
def Ks (p:aU) (n:Int) (l:List ae) (vs:List Nat):List (ag×ag):=vs.map fun v:Nat=>(.int .i64 (v:Int),br (jH p n l v))
def iK (vs:List Nat):List ag:=vs.map fun v:Nat => .int .i64 (v:Int)
theorem R' (g:Nat→ag) (x:ag) (v:Nat):∀ vs:List Nat,v∉vs→od (vs.map fun u:Nat=>(.int .i64 (u:Int),g u)) (.int .i64 (v:Int)) x=some ((vs.map fun u:Nat=>(.int .i64 (u:Int),g u))++[(.int .i64 (v:Int),x)])
  | [],_=>rfl
  | u::r,h=>by
    have hu:((v:Int)==(u:Int))=false:=by
      rw [beq_eq_false_iff_ne];intro he;exact h (by rw [show v=u by omega];exact g8)
    rw [ai2,od];simp only [lI,ak2,hu,R' g x v r (fun hm=>h (f9 _ hm)),d5]
theorem Sa {c:Nat} (h:c≤7):ai' .i64 (1*2^(min (c:Int).toNat (aq7 .i64)))=((2^c:Nat):Int):=by
 have U:min (c:Int).toNat (aq7 .i64)=c:=by simp [aq7];omega
 rw [U];have ad:(1*2^c:Int)=((2^c:Nat):Int):=by push_cast;omega
 have aj:2^c<2^63:=Nat.pow_lt_pow_right ak ak;rw [ad,MM aj]
def re (w:bo) (l:List ae) (v:Nat):List Nat:=(ak6 v).filter (r1 w l)
theorem adE (w:bo) (l:List ae) (v:Nat):re w l (v+1)=re w l v++(if r1 w l v then [v] else []):=by
 unfold re;rw [au1,ap6,an1];rfl
theorem adF (w:bo) (l:List ae) (v:Nat):v∉re w l v:=fun h=>by
 have:=al4.1 (aj1.1 h).1;omega
theorem adG (w:bo) (l:List ae) (v:Nat):(re w l v).length≤v:=by
 have:=al8 (r1 w l) (ak6 v);rw [aq0] at this;exact this
theorem adH (p:aU) (aB:e3 p) (bu:cS p=true) (n:Int) (l:List ae) (aq dL di:Nat) (n4:l.length≤7) (gZ:j8 (bU p) l) (eK:l.Nodup) (jz:FN p n l) :
  bs d4 194 [.ptr di 0] [hH p n (gr l) (.aF 0 [] .nil) aq dL di,(.own aq,.map [])] (fun o K=>o = .ret (.bW [])∧K=[hH p n (gr l) (.aF 1 (iK (nX (bU p) l)) .a7) aq dL di,(.own aq,.map (Ks p n l (nX (bU p) l)))]):=by
 have w3:bK=1099511627776:=rfl;have FP:2^l.length≤2^7:=ap4 ak n4;have qU:=fun vs v h=>R8 p bu n l vs aq dL di n4 gZ eK v h
 have FQ:=fun vs v h=>R5 p aB bu n l vs aq dL di n4 gZ jz v h
 have adI:nX (bU p) l=re (bU p) l (2^l.length):=rfl;refine bs.bj ah Tryz.func194 C C fun s I=>?_
 unfold hH f' gr at *;refine jB I ?_;intro I;refine ab.shl ((2^l.length:Nat):Int) C C C C C C ak (by rw [f6];exact Sa n4) ?_;refine fc ?_;refine af.hv I 3 1 0 fun I=>?_
 refine af.ig I (f' p n (gr l) (.aF 1 (iK []) .nil) aq dL) (kb:=di) aO (by
  unfold f' gr
  repeat (first|exact b5.nil|refine b5.cons (by first|exact aH|exact aR.nil gF) ?_)) (fun I=>?_)
 unfold f' gr at I ⊢;refine af.cc [0,8] C I (σ:=Nat×bM) (fun q=>[(9,.int .i64 (q.1:Int))]) (fun q=>[(q.2,.row 3 1 (re (bU p) l q.1).length),hH p n (gr l) (.aF 1 (iK (re (bU p) l q.1)) q.2) aq dL di,(.own aq,.map (Ks p n l (re (bU p) l q.1)))]) (fun q=>q.1≤2^l.length) (fun q=>2^l.length-q.1) (0,.nil)
  (g9 _) (cy C) (by simp only [hH,f',gr];exact a') ?_
 rintro ⟨v,hj⟩ aD I;simp only [hH,f',gr,iK,Ks] at aD I ⊢;refine cl ?_;refine af.cond C (fun au=>?_) (fun aV=>?_);rotate_left
 ·have aV:v=2^l.length:=Nat.le_antisymm aD (Int.ofNat_le.1 (Int.not_lt.1 (of_decide_eq_false aV)))
  subst aV;rw [adI]
  refine af.ig I (f' p n (gr l) (.aF 1 (iK (re (bU p) l (2^l.length))) .a7) aq dL) (kb:=di) aO (by
   unfold f' gr
   repeat (first|exact b5.nil|refine b5.cons (by first|exact aH|exact aR.a7) ?_)) (fun I=>?_)
  refine ki ?_;exact Fin.bz I C aH (by simp only [hH,f',gr];exact a') ⟨rfl,rfl⟩
 have au:v<2^l.length:=aI8.1 (ao4 au);have adJ:=fun vs=>qU vs v ak
 have yv:=fun vs=>FQ vs v ak
 have z':=adE (bU p) l v;have gm:=adG (bU p) l v;refine bd ?_;refine ab.bL rfl rfl rfl rfl rfl (adJ (.aF 1 ((re (bU p) l v).map fun v:Nat => .int .i64 (v:Int)) hj)) I a' ?_ (fun _ _ ⟨h,_⟩ _=>by cases h);rintro _ _ ⟨⟨⟩,rfl⟩ I;simp only [d0,d5] at I ⊢;cases FR:r1 (bU p) l v with
 | false=>
  rw [FR,f4 bc,d7] at z';refine bd ?_;exact bA.mk (v+1,hj) I au ct (by simp only [z'];exact a') (by show 2^l.length-(v+1)<2^l.length-v;omega)
 | true=>
  rw [FR,f7 C] at z';refine c9 I ?_;intro I;refine ab.gn ah I C C C C C C C dB C C C C C C C C aO h' lP ak (fun b1 I=>?_);refine c9 I ?_;intro I;have adK:=yv (.aF 1 ((re (bU p) l v).map (fun v:Nat=>ag.int .i64 (v:Int))++[.int .i64 (v:Int)]) (.own b1));have adL:=R' (fun v=>br (jH p n l v)) (br (jH p n l v)) v _ (adF (bU p) l v);refine af.sK (e6 [(di,_)]) ah mixed C (bH.run (e6.one (bm.get aO I)) C ?_);refine bH.vo 3 ah (e6.one (bm.get aO I)) C C C C C C C C (fun _ h=>e6.fst h) bZ ?_;refine bH.run (e6.one (bm.get aO I)) C ?_;refine bH.bL rfl rfl rfl rfl rfl rfl rfl adK I a' (fun _ _ h I=>by obtain ⟨-,rfl⟩:=h;exact .inl (e6.one (bm.get .here I))) ?_ (fun _ _ ⟨h,_⟩ _=>by cases h);rintro _ _ ⟨⟨⟩,rfl⟩ I;simp only [d0,d5] at I ⊢;refine bH.run (e6.one (bm.get aO I)) C ?_;refine bH.kz 8 ah I C C C C (.inl C) C C C C C C aO C adL (fun _ => .inr C) (fun I=>?_);refine bb.done C ?_;refine eF ?_;exact bA.mk (v+1,.own b1) I au ct (by simp only [z',t8,ai2,aj5,f0,i9,ai9];exact a') (by show 2^l.length-(v+1)<2^l.length-v;omega)
theorem adM (l:List ae) (f:ae):(jl l f).any (fun y=>fZ y f)=true:=by
 unfold jl;split
 ·assumption
 ·rw [ax2];simp [Po]
theorem adN {l:List ae} {f x:ae} (h:l.any (fun y=>fZ y x)=true):(jl l f).any (fun y=>fZ y x)=true:=by
 unfold jl;split
 ·exact h
 ·rw [ax2,h];rfl
theorem Kt {x:ae}:∀ (cP l:List ae),l.any (fun y=>fZ y x)=true→(cP.foldl jl l).any (fun y=>fZ y x)=true
 | [],_,h=>h
 | a::r,l,h=>Kt r _ (adN h)
theorem Sb {x:ae}:∀ (cP l:List ae),x∈cP→(cP.foldl jl l).any (fun y=>fZ y x)=true
  | a::r,l,h=>by
    rw [ak9];rcases ai1.1 h with rfl|h
    · exact Kt r _ (adM l x)
    · exact Sb r _ h
theorem Sc {gen:Int} {x:ae}:∀ (ms:List hh) (l:List ae),l.any (fun y=>fZ y x)=true→(ms.foldl (mC gen) l).any (fun y=>fZ y x)=true
 | [],_,h=>h
 | m::r,l,h=>Sc r _ (by unfold mC;split;exact Kt _ _ h;exact h)
theorem Sd {gen:Int} {x:ae}:∀ (ms:List hh) (l:List ae) (m:hh),m∈ms→m.gen=gen→x∈kF m.fact→(ms.foldl (mC gen) l).any (fun y=>fZ y x)=true
  | a::r,l,m,h,ay,aa=>by
    rw [ak9];rcases ai1.1 h with rfl|h
    · exact Sc r _ (by unfold mC;rw [f7 ay];exact Sb _ _ aa)
    · exact Sd r _ m h ay aa
theorem adO (p:aU) (gen:Int):FN p gen (dG p gen):=fun m hm ay x aa=>Sd p.methods [] m hm ay aa
theorem adP {p:aU} {gen:Int} (h:km p gen=0):cS p=true∧vS p gen=true∧(dG p gen).length≤7:=by
 unfold km at h;split at h
 ·rename_i U
  rw [d6] at U;split at h
  ·exact ⟨U.1,U.2,by assumption⟩
  ·omega
 ·omega
theorem Se {w:bo} {l:List ae} {v:Nat} (h:v∈nX w l):v<2^l.length:=by
 unfold nX at h;exact al4.1 (aj1.1 h).1
def FT (p:aU) (n:Int):ag := .bW [if km p n=0 then gr (dG p n) else .aF 0 [] .nil,.int .i64 (km p n)]
def FU (p:aU) (n:Int):ag := .bW [if km p n=0 then .aF 1 (iK (nX (bU p) (dG p n))) .a7 else .aF 0 [] .nil,.int .i64 (km p n)]
def CG (p:aU) (n v:Int):Bool:=decide (0≤v)&&(decide (v<((2^(dG p n).length:Nat):Int))&&r1 (bU p) (dG p n) v.toNat)
def Aa (p:aU) (n v:Int):Int:=if km p n=0 then (if CG p n v then 0 else 5) else km p n
def FV (p:aU) (n v:Int):ag := .bW [if Aa p n v=0 then br (jH p n (dG p n) v.toNat) else .aF 0 [] .nil,.int .i64 (Aa p n v)]
theorem FW {p:aU} {n:Int} (he:km p n=0):cS p=true∧(dG p n).length≤7∧j8 (bU p) (dG p n)∧(dG p n).Nodup∧FN p n (dG p n):=by
 obtain ⟨U,-,ad⟩:=adP he;exact ⟨U,ad,(ZK U n).1,Z1 p n,adO p n⟩
theorem Sf (p:aU) (aB:e3 p) (n:Int):aY d4 130 [cQ p,.int .i64 n] (FT p n):=by
 have aq:=bx;refine aY.bj ah Tryz.func130 C C fun s I=>?_
 have bp:=Kn p aB n;unfold FT;unfold cQ cj at *;refine cX ?_;refine ab.bL rfl rfl rfl rfl rfl bp I .nil ?_ (fun _ _ h _=>by rcases h with ⟨_,_,_,_,h,_⟩|⟨_,⟨_,h⟩,_⟩<;>cases h);rintro _ _ (⟨he,di,aq,dL,⟨⟩,rfl⟩|⟨he,⟨v,⟨⟩⟩,rfl⟩) I
 ·rw [he,f7 C]
  simp only [d5,d0] at I ⊢;unfold f' gr at *;refine hC I ?_;intro I;exact b2 I
 ·rw [f4 he]
  simp only [d0] at I ⊢;refine gw ?_;refine af.cond C (fun _=>?_) (fun h=>absurd fG he);refine o3 ?_;exact b2 I
theorem Sg (p:aU) (aB:e3 p) (n:Int):aY d4 131 [cQ p,.int .i64 n] (FU p n):=by
 have aq:=bx;refine aY.bj ah Tryz.func131 C C fun s I=>?_
 have bp:=Kn p aB n;unfold FU;unfold cQ cj at *;refine cX ?_;refine ab.bL rfl rfl rfl rfl rfl bp I .nil ?_ (fun _ _ h _=>by rcases h with ⟨_,_,_,_,h,_⟩|⟨_,⟨_,h⟩,_⟩<;>cases h);rintro _ _ (⟨he,di,aq,dL,⟨⟩,rfl⟩|⟨he,⟨v,⟨⟩⟩,rfl⟩) I
 ·rw [he,f7 C]
  obtain ⟨bu,n4,gZ,eK,jz⟩:=FW he;have fs:=adH p aB bu n (dG p n) aq dL di n4 gZ eK jz;simp only [d5,d0] at I ⊢;unfold hH f' gr at *;refine bd ?_;refine ab.bL rfl rfl rfl rfl rfl fs I a' ?_ (fun _ _ ⟨h,_⟩ _=>by cases h);rintro _ _ ⟨⟨⟩,rfl⟩ I;simp only [d5,d0] at I ⊢;refine c9 I ?_;intro I;exact b2 I
 ·rw [f4 he]
  simp only [d0] at I ⊢;refine gw ?_;refine af.cond C (fun _=>?_) (fun h=>absurd fG he);refine o3 ?_;exact b2 I
theorem Sh (p:aU) (aB:e3 p) (n v:Int):aY d4 71 [cQ p,.int .i64 n,.int .i64 v] (FV p n v):=by
 have aq:=bx;refine aY.bj ah Tryz.func71 C C fun s I=>?_
 have bp:=Kn p aB n;have hm:Aa p n v=if km p n=0 then (if CG p n v then 0 else 5) else km p n:=rfl
 unfold FV;unfold cQ cj at *;refine cX ?_;refine ab.bL rfl rfl rfl rfl rfl bp I .nil ?_ (fun _ _ h _=>by rcases h with ⟨_,_,_,_,h,_⟩|⟨_,⟨_,h⟩,_⟩<;>cases h);rintro _ _ (⟨he,di,aq,dL,⟨⟩,rfl⟩|⟨he,⟨v,⟨⟩⟩,rfl⟩) I
 ·obtain ⟨bu,n4,gZ,eK,jz⟩:=FW he
  have FP:2^(dG p n).length≤2^7:=ap4 ak n4;rw [f7 he] at hm;have aD:CG p n v=(decide (0≤v)&&(decide (v<((2^(dG p n).length:Nat):Int))&&r1 (bU p) (dG p n) v.toNat)):=rfl;simp only [d5,d0] at I ⊢;unfold f' gr at I ⊢;refine bd ?_;by_cases U:v<0
  ·refine ab.fM 23 C (i6 U) ?_
   rw [aD,show decide (0≤v)=false by simp;omega,aa',f4 bc] at hm;rw [hm,f4 bc];refine bd ?_;exact b2 I
  refine ab.eP 23 C (M2 U) ?_;obtain ⟨u,rfl⟩:∃ u:Nat,v=u:=⟨v.toNat,by omega⟩;rw [i6 (Int.natCast_nonneg u),i8,ai7] at aD;rw [ai7];refine kh I ?_;intro I;refine ab.shl ((2^(dG p n).length:Nat):Int) C C C C C C ak (by rw [f6];exact Sa n4) ?_;refine fB ?_;by_cases ad:(u:Int)<((2^(dG p n).length:Nat):Int);rotate_left
  ·refine ab.fM 33 C (i6 (Int.not_lt.1 ad)) ?_
   rw [aD,M2 ad,aa',f4 bc] at hm;rw [hm,f4 bc];refine bd ?_;exact b2 I
  refine ab.eP 33 C (M2 (Int.not_le.2 ad)) ?_;have aj:u<2^(dG p n).length:=aI8.1 ad;rw [i6 ad,i8] at aD;have qU:=R8 p bu n (dG p n) (.aF 0 [] .nil) aq dL di n4 gZ eK u ak;have FQ:=R5 p aB bu n (dG p n) (.aF 0 [] .nil) aq dL di n4 gZ jz u ak;unfold hH f' gr at qU FQ;refine fB ?_;refine ab.bL rfl rfl rfl rfl rfl qU I a' ?_ (fun _ _ ⟨h,_⟩ _=>by cases h);rintro _ _ ⟨⟨⟩,rfl⟩ I;simp only [d5,d0] at I ⊢;cases aw:r1 (bU p) (dG p n) u with
  | false=>
   rw [aD,aw,f4 bc] at hm;rw [hm,f4 bc];refine bd ?_;exact b2 I
  | true=>
   rw [aD,aw,f7 C] at hm;rw [hm,f7 C];refine bd ?_;refine ab.bL rfl rfl rfl rfl rfl FQ I a' ?_ (fun _ _ ⟨h,_⟩ _=>by cases h);rintro _ _ ⟨⟨⟩,rfl⟩ I;simp only [d5,d0] at I ⊢;refine eB ?_;exact b2 I
 ·rw [f4 he] at hm
  rw [hm,f4 he];simp only [d0] at I ⊢;refine bd ?_;refine af.cond C (fun _=>?_) (fun h=>absurd fG he);refine bd ?_;exact b2 I
def Si (p:aU) (c0:List ji) (n:Int) (args:List (Int×Int)):Bool:=cS p&&Fx p c0 n args
def uP (ws:List Nat) (u:Nat):Bool:=ws.contains u
theorem adQ {vs:List Nat} {q:Nat→Bool} {v:Nat} (h:v∈vs):uP (vs.filter q) v=q v:=by
 unfold uP;rw [aj3,List.contains_iff_mem,aj1];exact ⟨fun h=>h.2,fun ad=>⟨h,ad⟩⟩
def nr (vs ws:List Nat):Prop:=∃ q,ws=vs.filter q
theorem nr.all (vs:List Nat):nr vs vs:=⟨fun _=>true,(List.filter_eq_self.2 fun _ _=>rfl).symm⟩
theorem nr.filter {vs ws:List Nat} (h:nr vs ws) (q:Nat→Bool):nr vs (ws.filter q):=by
 obtain ⟨r,rfl⟩:=h;exact ⟨_,List.filter_filter⟩
theorem nr.mem {vs ws:List Nat} (h:nr vs ws) {v:Nat} (aD:v∈ws):v∈vs:=by
 obtain ⟨r,rfl⟩:=h;exact (aj1.1 aD).1
theorem nr.len {vs ws:List Nat} (h:nr vs ws):ws.length≤vs.length:=by
 obtain ⟨r,rfl⟩:=h;exact al8 _ _
theorem nr.self {vs ws:List Nat} (h:nr vs ws):vs.filter (uP ws)=ws:=by
 obtain ⟨r,rfl⟩:=h;exact aE9 fun v aD=>adQ aD
theorem nr.inj {vs ws FX:List Nat} (gE:∀ v∈vs,v<128) (h:nr vs ws) (eA:nr vs FX) (he:uO (uP ws)=uO (uP FX)):ws=FX:=by
 have:=adD he;rw [← h.self,← eA.self];exact aE9 fun v aD=>this v (gE v aD)
def pG (vs:List Nat) (M qn:List (List Int×ag)) (k:Nat):Prop:=∀ e∈qn,e∈M∨∃ ws,nr vs ws∧ws.length<k∧e.1=uO (uP ws)
theorem pG.refl (vs:List Nat) (M:List (List Int×ag)) (k:Nat):pG vs M M k:=fun _ h => .inl h
theorem pG.trans {vs:List Nat} {M qn Sj:List (List Int×ag)} {k k':Nat} (h:pG vs M qn k) (eA:pG vs qn Sj k') (ax:k'≤k):pG vs M Sj k:=fun e he=>by
 rcases eA e he with U|⟨ws,U,ad,aj⟩
 ·exact h e U
 ·exact .inr ⟨ws,U,by omega,aj⟩
theorem pG.add {vs ws:List Nat} {M qn:List (List Int×ag)} {k:Nat} {x:ag} (h:pG vs M qn k) (hw:nr vs ws) (ax:ws.length<k):pG vs M (qn++[(uO (uP ws),x)]) k:=fun e he=>by
 rcases ab'.1 he with he|he
 ·exact h e he
 ·rw [i7.1 he];exact .inr ⟨ws,hw,ax,rfl⟩
theorem pG.mono {vs:List Nat} {M qn:List (List Int×ag)} {k k':Nat} (h:pG vs M qn k) (ax:k≤k'):pG vs M qn k':=fun e he=>by
 rcases h e he with U|⟨ws,U,ad,aj⟩
 ·exact .inl U
 ·exact .inr ⟨ws,U,by omega,aj⟩
theorem pG.none {vs ws:List Nat} {M qn:List (List Int×ag)} (gE:∀ v∈vs,v<128) (h:pG vs M qn ws.length) (hw:nr vs ws) (aZ:M.find? (fun e=>e.1==uO (uP ws))=none):qn.find? (fun e=>e.1==uO (uP ws))=none:=by
 rw [aq3] at aZ ⊢;intro e he;rcases h e he with U|⟨FX,U,ad,aj⟩
 ·exact aZ e U
 ·rw [aj]
  intro av;have:=U.inj gE hw r9;rw [this] at ad;exact absurd ad (Nat.lt_irrefl _)
def vT.all (P:List Int→Prop):vT→Prop
 | .leaf ms=>P ms
 | .test _ a b=>a.all P∧b.all P
theorem Sk (a b:ae) (bp:a.kids=[]) (dH:b.kids=[]) (adR:a.path.length<bK) (bu:b.path.length<bK):aY d4 47 [a.bh,b.bh] (.bool (fZ a b)):=by
 have aq:=bx;refine aY.bj ah Tryz.func47 C C fun s I=>?_
 obtain ⟨o,x,p,c,n,ks⟩:=a;obtain ⟨o',l7,bg,pX,n',Bm⟩:=b;simp only [ae.kids] at bp dH;subst bp;subst dH;have U:=D5 p bg adR bu;have he:fZ (.mk o x p c n []) (.mk o' l7 bg pX n' [])=(decide (o=o')&&(decide (x=l7)&&(decide (c=pX)&&(decide (n=n')&&p==bg)))):=rfl;simp only [ae.bJ,ae.cells,ae.op,ae.arg,ae.path,ae.cls,ae.n,ae.kids,aj5];unfold br ba at U;cases al:decide (o=o')&&(decide (x=l7)&&(decide (c=pX)&&(decide (n=n')&&p==bg))) with
 | false=>
  rw [he,al];clear he
  repeat' (first|(with_reducible first|apply af.seq|apply cg|apply jA|apply af.ret|apply af.skip|apply af.block)|refine e7 C ?_|refine af.cv ?_|refine ab.nil ?_|refine af.hA C ?_|refine af.hp C ?_|refine cq C ?_|refine ab.skip C C C ?_|refine ab.eT C C C C C cD ?_|(fail_if_success refine ab.same true C ?_);(fail_if_success refine ab.same false C ?_);refine ab.m3 C C (fun h=>?_) (fun h=>?_))
  all_goals (try (refine Fin.cZ I C ?_;exact aH))
  all_goals (exfalso;clear I;grind)
 | true=>
  rw [he,al];simp only [d6,f5,ao7] at al;obtain ⟨rfl,rfl,rfl,rfl,rfl⟩:=al;rw [show (p==p)=true from beq_iff_eq.2 C] at U;refine cX ?_;refine ab.eP 11 C bc ?_;refine fB ?_;refine ab.eP 18 C bc ?_;refine fB ?_;refine ab.eP 25 C bc ?_;refine fB ?_;refine ab.eP 32 C bc ?_;refine c1 ?_;refine af.cc [51] C I (σ:=Nat) (fun j=>[(52,.int .i64 (j:Int))]) (fun _=>[]) (fun j=>j=0) (fun j=>0) 0 C (cy C) .nil ?_;rintro j rfl I
  try simp only at I ⊢
  refine bd ?_;exact b2 I
theorem Sl:∀ (l:List ae) (i v j:Nat) (x:ae),l[j]? = some x→(s' i l v)[j]? = some (x,!v.testBit (i+j))
  | y::r,i,v,0,x,h=>by
    rw [s'];have:y=x:=by simpa using h
    rw [this];rfl
  | y::r,i,v,j+1,x,h=>by
    rw [s',List.getElem?_cons_succ,Sl r (i+1) v j x fG];rw [show i+1+j=i+(j+1) by omega]
theorem Sm:∀ (l:List ae) (i v:Nat),(s' i l v).length=l.length
 | [],_,_=>rfl
 | y::r,i,v=>by rw [s',i9,Sm r,i9]
theorem Sn {l:List ae} {v j:Nat} {x:ae} (h:l[j]? = some x):(oF l v)[j]? = some (x,!v.testBit j):=by
 have:=Sl l 0 v j x h;rwa [aj8] at this
theorem FY (l:List ae) (v:Nat):(oF l v).length=l.length:=Sm l 0 v
theorem adS {w:bo} {l:List ae} (aE:j8 w l) (gL:l.length≤7) (v:Nat):n2 w (oF l v):=by
 refine ⟨by rw [FY];omega,fun x aa=>?_⟩;obtain ⟨j,aK⟩:=an6 aa;have yU:=sW aK;rw [FY] at yU;have h:=Sn (v:=v) (f8 yU);rw [aK] at h;simp only [ap7.injEq] at h;subst h;have:=aE _ (an9 yU);rw [p0,d6] at this;exact ⟨this.1.1,this.2⟩
theorem adT (x y:ae) (aa:x.kids=[]) (ar:y.kids=[]) (adU:x.path.length<bK) (adV:y.path.length<bK):aY d4 47 [x.not.bh,y.not.bh] (.bool (fZ x y)):=by
 have aq:=bx;refine aY.bj ah Tryz.func47 C C fun s I=>?_
 have U:=D5 [] [] dh dh;rw [show (([]:List Int)==[])=true from rfl] at U;have ad:=Sk x y aa ar adU adV;have ck:([x.bh]:List ag)[0]? = some x.bh:=rfl;have cL:([y.bh]:List ag)[0]? = some y.bh:=rfl;rw [oJ,oJ];rw [ae.bJ x,ae.bJ y] at ad ⊢;rw [ae.bJ x] at ck;rw [ae.bJ y] at cL;unfold ae.cells at *;unfold br at U;simp only [aj5] at U;refine c1 ?_;refine af.cc [2,3,51] C I (σ:=Nat) (fun j=>[(52,.int .i64 (j:Int))]) (fun _=>[]) (fun j=>j=0∨(j=1∧fZ x y=true)) (fun j=>1-j) 0 (.inl C) (cy C) a' ?_;rintro j aG I;rcases aG with rfl|⟨rfl,aG⟩
 ·cases al:fZ x y with
  | true=>
   rw [al] at ad;refine c1 ?_;exact bA.mk 1 I (.inr ⟨rfl,rfl⟩) (cy C) a' dh
  | false=>
   rw [al] at ad;refine c1 ?_;exact b2 I
 ·rw [aG]
  refine bd ?_;exact b2 I
theorem adW (x y:ae) (aa:x.op≠5):aY d4 47 [x.bh,y.not.bh] (.bool false):=by
 have aq:=bx;refine aY.bj ah Tryz.func47 C C fun s I=>?_
 rw [oJ,ae.bJ];unfold ae.cells;refine cX ?_;refine ab.fM 11 C uY ?_;refine bd ?_;exact b2 I
theorem adX (x y:ae) (ar:y.op≠5):aY d4 47 [x.not.bh,y.bh] (.bool false):=by
 have aq:=bx;refine aY.bj ah Tryz.func47 C C fun s I=>?_
 rw [oJ,ae.bJ y];unfold ae.cells;refine cX ?_;refine ab.fM 11 C (by simpa using fun h=>ar h.symm) ?_;refine bd ?_;exact b2 I
theorem adY {x y:ae} (aa:x.kids=[]) (ar:y.kids=[]):(fZ x y=true↔x=y):=by
 obtain ⟨o,a,p,c,n,ks⟩:=x;obtain ⟨o',dm,bg,pX,n',Bm⟩:=y;simp only [ae.kids] at aa ar;subst aa;subst ar;unfold fZ;simp only [ae.op,ae.arg,ae.path,ae.cls,ae.n];constructor
 ·intro h
  simp only [d6,ao7] at h;obtain ⟨U,ad,aj,bk,rfl⟩:=h;obtain rfl:=ao4 U;obtain rfl:=ao4 ad;obtain rfl:=ao4 aj;obtain rfl:=ao4 bk;rfl
 ·intro h;cases h;simp
def CH (x:bG):Prop:=x.1.kids=[]∧x.1.op≠5∧x.1.path.length<bK
theorem Sp (x y:bG) (aa:CH x) (ar:CH y):aY d4 47 [(Br x).bh,(Br y).bh] (.bool (rL x y)):=by
 obtain ⟨f,c⟩:=x;obtain ⟨g,d⟩:=y;obtain ⟨Ku,ahX,Sq⟩:=aa;obtain ⟨Kv,wm,Sr⟩:=ar;have al:fZ f g=rL (f,c) (g,c):=by
  rw [aj3,adY Ku Kv,D2];simp
 cases c<;>cases d
 ·rw [← al];exact Sk f g Ku Kv Sq Sr
 ·exact adW f g ahX
 ·exact adX f g wm
 ·rw [← al];exact adT f g Ku Kv Sq Sr
structure Ss (p:aU) (c0:List ji) (n:Int) (args:List (Int×Int)):Prop where
 prog:cS p=true
 obj:xH (bU p) c0
 few:args.length≤3
 mj:∀ v∈args,zg c0.length v=true
 ag3:(args.length:Int)=p.dX.getD n.toNat 0
 hand:DZ (bU p) c0 args=true
theorem Ss.of {p:aU} {c0:List ji} {n:Int} {args:List (Int×Int)} (h:Si p c0 n args=true):Ss p c0 n args:=by
 unfold Si Fx at h;simp only [d6,f5] at h;obtain ⟨U,ad,aj,bk⟩:=h;have:=Yl bk;exact ⟨U,this.1,this.2.1,this.2.2,aj,bk⟩
def adZ (w:bo) (c0:List ji) (args:List (Int×Int)) (L:List bG):Prop:=∀ x∈L,xA w c0 args x.1 = !x.2
section
variable {w:bo} (hw:fJ w) {c0:List ji} (ai:xH w c0) {args:List (Int×Int)} {L:List bG} (bE:lS w L) (dR:adZ w c0 args L)
include bE dR
end
theorem ad0 {w:bo} {k:Nat}:(lu w 2).testBit k=(decide (k=0)||decide (k=2)):=by
 unfold lu;rw [show (2:Int).toNat=2 from rfl,← Bn (ps:=w.ps) (i:=0) (g9 _) ak,an7,show (fK []).getD 2 0=5 from rfl];rcases (by omega:k=0∨k=1∨k=2∨3≤k) with rfl|rfl|rfl|h
 ·rfl
 ·rfl
 ·rfl
 ·rw [at8 (ap5 (by omega:5<2^3) (ap4 ak h)),M2 ak,M2 ak];rfl
def Kw (w:bo) (n:Int) (c0:List ji) (args:List (Int×Int)):Nat→List hh→List Int
 | _,[]=>[]
 | i,m::r=>if m.gen=n&&M0 w c0 args m.fact then (i:Int)::Kw w n c0 args (i+1) r else Kw w n c0 args (i+1) r
def ad1 (p:aU) (n:Int) (c0:List ji) (args:List (Int×Int)):List Int:=Kw (bU p) n c0 args 0 p.methods
end Go.Proofs.YtimbpjfhekcofaaGreat
