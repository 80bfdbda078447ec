import Derived.Test.YtimbpjfhekcofaaGreatKc
import Derived.Shelf.Sort.Plain
import Derived.KernelRfl
import Derived.WideKeyRuns
set_option linter.unusedVariables false
set_option linter.unusedSimpArgs false
set_option maxRecDepth 100000
set_option maxHeartbeats 4000000
open Array renaming ext_getElem?→av6,getElem?_eq_some_iff→t6,getElem?_modify→aq1,getElem?_toList→as7,length_toList→ai8,replicate→ao',toList_push→aw2
open BitVec renaming ofInt→ao6,ofNat→aE6,toNat_and→aB9,toNat_ofNat→aq4
open Bool renaming and_eq_true→d6,and_false→an3,eq_iff_iff→aj3,false_and→aa',not_eq_true'→aj7,or_assoc→ap3,or_eq_true→aj',true_and→i8
open Int renaming le_refl→ap8,toNat_natCast→ai7
open Go.IntKind renaming bits→aq7,signed→aC7,wrap→ai'
open List renaming all_cons→aq6,all_eq_true→ai4,any_cons→ak',any_eq_true→ai6,append_assoc→aj0,append_nil→d7,cons_append→d5,cons_beq_cons→aE4,contains_iff_mem→am',drop_zero→aq9,eq_nil_of_length_eq_zero→ak7,findIdx?_eq_none_iff→am6,findIdx?_eq_some_iff_getElem→ak8,flatMap_cons→am0,foldl_append→aq',getD_eq_getElem?_getD→d9,getElem?_append_left→ak3,getElem?_append_right→ak0,getElem?_eq_getElem→f8,getElem?_eq_some_iff→ac',getElem?_map→aj6,getElem?_of_mem→an6,getElem?_take→al',getElem_mem→an9,length_append→f0,length_cons→i9,length_drop→an0,length_filter_le→al8,length_map→f6,length_nil→ai9,length_singleton→ad',length_take_le'→au5,length_take→ah',length→az8,map_append→t8,map_cons→ai2,map_nil→aj5,map_take→at2,mem_append→ab',mem_cons_of_mem→f9,mem_cons_self→g8,mem_cons→ai1,mem_filter→aj1,mem_map→ae',mem_of_getElem?→d8,mem_singleton→i7,nil_append→d0,nodup_append→an',range→ak6,set_append_right→ap0,size_toArray→ap2,take_add_one→ay5,take_append_drop→am2,take_append_of_le_length→al5,take_length→ag',take_of_length_le→am4,take_zero→an7
open Nat renaming and_comm→aI2,and_le_left→aG2,beq→aj4,blt→af',eq_of_beq_eq_true→ai3,eq_of_testBit_eq→au3,le_add_right→aF1,le_refl→t7,le_trans→al7,lt_of_le_of_lt→as5,lt_of_lt_of_le→ap5,lt_or_ge→au9,lt_succ_iff_lt_or_eq→am1,lt_succ_self→ar8,min_eq_left→ar2,mod_eq_of_lt→ar7,mul_one→am8,or_lt_two_pow→ao5,pow_le_pow_right→ap4,pow_lt_pow_right→ao0,shiftRight_eq_div_pow→au2,sub_self→aw3,sub_zero→aB3,testBit_and→ar1,testBit_lt_two_pow→at8,testBit_or→aq8,testBit_two_pow_sub_one→am7,testBit_two_pow→ap9,zero_add→aj8,zero_le→g9,zero_mul→aB1
open Option renaming getD_some→al1,map_none→aq2,map_some→an8
open Go.Result renaming andThen_ok→i0
open Go.Sem renaming runT_eq→ay6,run_bind→H1,run_pure→ai5
open Go.Proofs.Tryz renaming prog→d4
namespace Go.Proofs.YtimbpjfhekcofaaGreat
theorem Bd {p:Prop} (h:p:=by simp only [List.length_nil,Nat.zero_add,List.length_map];omega):p:=h
theorem xl {p:Prop} (h:p:=by first|(simp_all [];done)|(simp_all []<;>omega)):p:=h
theorem Hv {p:Prop} (h:p:=by (first|rw [lo (by omega)]|rw [al])):p:=h
theorem mq {p:Prop} (h:p:=by show xs.length-(j+1)<xs.length-j;omega):p:=h
theorem qK {p:Prop} (h:p:=by rw [ad];exact List.mem_cons_self):p:=h
theorem lP {p:Prop} (h:p:=by show (_+1)*8≤_;omega):p:=h
theorem gF {p:Prop} (h:p:=by intro b h;cases h):p:=h
theorem dB {p:Prop} (h:p:=by intro k;simp):p:=h
theorem h' {p:Prop} (h:p:=by simp<;>omega):p:=h
theorem dh {p:Prop} (h:p:=by decide):p:=h
def dv (b n cap:Nat):ag := .ho (.slice (some ⟨b,0,none⟩) n cap)
theorem b4.Be {w:World} {p:bV}:∀ vs:List Value,b4 w p vs (vs.map fun _ => .any)
 | [] => .nil
 | v::vs => .cons v .any vs _ (.any v) (b4.Be vs)
theorem xm {v:Value} (h:v.oneCell'=true):v.cells = #[v]:=by
 cases v<;>first|rfl|(simp [Value.oneCell'] at h;done)
theorem qL:∀ {vs:List Value},(∀ v∈vs,v.oneCell'=true)→flat vs=vs
  | [],_=>rfl
  | v::vs,h=>by
    have U:=qL (vs:=vs) fun u hu=>h u (f9 _ hu)
    unfold flat at U ⊢;rw [am0,U,xm (h v g8)];rfl
section
variable {P:Program} {Γ:cz} {N:Nat} {ops:Array Oper} {Q:b8→Env→ao→Prop} {env:Env} {s:ao} {l:List Oper} {o:Oper} {d:Nat} {L R:a6}
def Grown (s:ao) (R:a6) (e:TypeId) (n:Nat) (xs:List ag) (r:ag) (an:ao):Prop:=
 ∃ aW b0 cs',r=dv aW n b0∧an=aT s ((.own aW,.box e cs')::R)∧Ok s ((.own aW,.box e cs')::R)∧cs'.length=b0∧n≤b0∧cs'.take n=xs
theorem MC (aP:bX P Γ) {w:World} {p:bV} {S:ao} (ca:dn w p S) {t bR e ty:TypeId} {it cT aJ:bQ} {b9:Nat} {olds:List Value} {xs:List ag} {v:ag} {dW:bM} {base:Option Addr} {n cap:Nat} {rI:Value}
  (aN:Γ.get? t=some it) (bw:it.bN = .aF e) (dp:Γ.get? bR=some cT) (ed:∀ k,cT.bN ≠ .int k) (bP:Γ.get? e=some aJ) (U:aJ.size=1) (eE:aj4 aJ.zero.cells.size aJ.size=true)
  (aC:b4 w p olds xs) (av:n=xs.length) (tJ:(Builtin.firstCells 1 n (.slice base n cap)).run P w.drew = .ok olds.toArray w.drew) (ar:Rel w p rI (.aF b9 [v] dW)) (dN:b9=1) (ew:eZ v=true)
  (au:cap<n+1) (aq:(n+1)*aJ.bytes≤140737488355328) (eR:n+1≤9223372036854775807) :
  ∃ aW b0 cs' w',(Builtin.append_ #[t,bR] ty #[.slice base n cap,rI]).run P w = .ok (.slice (some ⟨aW,0,none⟩) (n+1) b0) w'∧S aW=none∧c2 w p w' p∧Kept S (S.set aW (.box e cs')) w p w' p∧dn w' p (S.set aW (.box e cs')) ∧
   cs'.length=b0∧n+1≤b0∧cs'.take (n+1)=xs++[v]:=by
 obtain ⟨info,d,g1,g2,g3,-⟩:=aP.parts aN;obtain ⟨nB,db,dF,c8,du,-⟩:=aP.parts dp;obtain ⟨jv,j0,ck,cL,ev,ee,lj,mg⟩:=aP.parts bP;have aA:d = .slice e:=by rw [bw] at g3;cases d<;>simp [ec] at g3;rw [g3]
 subst aA;have cH:∀ k,db ≠ .int k:=fun k e'=>by subst e';exact ed k du.symm
 obtain ⟨us,hq,oT,jw,jd,sA,sB,sC⟩:=pU ar (.inr dN);have mV:=hq.length;cases hq with
 | cons u _ wU _ hu xn=>
 cases xn;subst dN;have rJ:flat [u]=[u]:=qL (by intro x aa;rw [i7] at aa;subst aa;exact GL hu ew);have er:=growslice_fits (need:=n+1) (old:=cap) (bytes:=aJ.bytes) au aq;have cI:=AS (ty:=ty) w g2 c8 cH ck mg (base:=base) (sLen:=n) (sCap:=cap) (m:=1) (olds:=olds) (news:=[u]) (jw P)
  (by rw [ee,U];exact tJ) (by rw [ee,U,← rJ];exact jd P w.drew (fun _ _ _=>rfl)) au ak (by rw [lj];exact er)
 have oe:n+1≤grownCap w (n+1) cap e:=by simp [grownCap,Question.cut]
 have gq:olds.length=n:=by rw [aC.length,av]
 have pQ:=ai3 eE;generalize tK:(Builtin.zeroCells aJ.zero.cells (grownCap w (n+1) cap e-(n+1))).toList=aO at cI;have oU:aO.length=grownCap w (n+1) cap e-(n+1):=by
  rw [← tK,ai8];simp [Builtin.zeroCells,pQ,U]
 generalize grownCap w (n+1) cap e=G at cI oe oU;have xo:=yK ca
 obtain ⟨al,hle,ax,ln⟩:=sx xo (.cells (olds++[u]++aO).toArray e (0,0)) (.box e (xs++[v]++aO.map fun _ => .any)) (fun w' jc aD gm=>⟨_,jc,by
  refine b4.append (b4.append (gm _ _ (show b4 w.drew p olds xs from aC.mono lb)) (gm _ _ (.cons _ _ _ _ (hu.mono lb) .nil))) (b4.Be aO),fun o aB=>absurd (ca.lt _ _ aB) (by show ¬ w.heap.size<w.heap.size;omega)⟩)
 rw [show w.drew.heap.size=w.heap.size from rfl] at al ax ln;refine ⟨w.heap.size,G,xs++[v]++aO.map (fun _=>ag.any),_,cI,al,lb.trans hle,(wK (w:=w) (p:=p)).trans (lb (w:=w) (p:=p)).size ax,ln,?_,oe,?_⟩
 ·simp only [f0,f6,ad',oU];omega
 ·rw [al5 ez,am4 ez]
theorem vt {t bR:TypeId} {x y:Operand} {a:Act} {val:Value} {w w':World} (ai:o.op = .call { callee := .builtin .append,args := #[x,y],argTypes := #[t,bR] }) (h:(Builtin.append_ #[t,bR] o.type #[a.eval x,a.eval y]).run P w = .ok val w') :
  (execOp a.eval o).run P w = .ok (.value val) w':=by
 unfold execOp;rw [ai];simp only [resolve,invoke,builtin,H1,ai5,i0,List.map_toArray,ai2,aj5,h]
theorem aX.y' (aP:bX P Γ) (I:Ok s L) {t bR e:TypeId} {x y:Operand} {it cT aJ:bQ} {eI b9:Nat} {v:ag} {dW:bM}
  (ai:o.op = .call { callee := .builtin .append,args := #[x,y],argTypes := #[t,bR] }) (aN:Γ.get? t=some it) (bw:it.bN = .aF e) (dp:Γ.get? bR=some cT) (ed:∀ k,cT.bN ≠ .int k)
  (bP:Γ.get? e=some aJ) (U:aJ.size=1) (eE:aj4 aJ.zero.cells.size aJ.size=true) (aa:aL env x=some (.aF eI [] .nil)) (ar:aL env y=some (.aF b9 [v] dW)) (dN:b9=1) (ew:eZ v=true) (aq:1*aJ.bytes≤140737488355328)
  {X:ag→ao→Prop}:aX P N o env (aT s L) (fun r an=>Grown s L e 1 [v] r an) X:=by
 refine aX.jZ hZ fun ro B a w p aI=>?_
 have fz:=aI.aL aa;have eH:=aI.aL ar;have ef:=fun val w'=>vt (P:=P) (a:=a) (val:=val) (w:=w) (w':=w') ai
 generalize dM:a.eval x=dy at fz ef;generalize fj:a.eval y=fX at eH ef;have xp:dy = .slice none 0 0:=by
  cases fz with
  | iA=>rfl
  | jo a _ _ h=>rcases h with h|h<;>cases h
  | aF g off n cap _ vs _ _ av=>exact absurd C av
 subst xp
 obtain ⟨aW,b0,cs',w',eD,fh,gv,jx,mW,mX,ov,ow⟩:=MC (ty:=o.type) aP aI.wf (base:=none) (n:=0) (cap:=0) (olds:=[]) (xs:=[]) aN bw dp ed bP U eE .nil rfl (by
  have:=run_firstCells_none (P:=P) w.drew 1 0 0 0
  simpa using this) eH dN ew ak (by simpa using aq) ak
 exact ⟨_,w',_,p,_,ef _ _ eD,gv,jx,mW,⟨aW,b0,cs',rfl,rfl,⟨fh,I⟩,mX,ov,by simpa using ow⟩,.ho _⟩
theorem aX.za (aP:bX P Γ) (I:Ok s L) {t bR e:TypeId} {x y:Operand} {it cT aJ:bQ} {b n cap b9:Nat} {cs:List ag} {v:ag} {dW:bM}
    (ai:o.op = .call { callee := .builtin .append,args := #[x,y],argTypes := #[t,bR] }) (aN:Γ.get? t=some it) (bw:it.bN = .aF e) (dp:Γ.get? bR=some cT) (ed:∀ k,cT.bN ≠ .int k)
    (bP:Γ.get? e=some aJ) (U:aJ.size=1) (eE:aj4 aJ.zero.cells.size aJ.size=true) (aa:aL env x=some (dv b n cap)) (al:bm L (.own b) (.box e cs) R) (cm:cs.length=cap) (av:n≤cap) (j2:(cs.take n).all eZ=true)
    (ar:aL env y=some (.aF b9 [v] dW)) (dN:b9=1) (ew:eZ v=true) (aq:(n+1)*aJ.bytes≤140737488355328) (eR:n+1≤9223372036854775807)
    {X:ag→ao→Prop}:aX P N o env (aT s L) (fun r an=>Grown s R e (n+1) (cs.take n++[v]) r an) X:=by
  obtain ⟨bT,bI,eh⟩:=al.perm I;refine aX.jZ hZ fun ro B a w p aI=>?_
  have fz:=aI.aL aa;have eH:=aI.aL ar;have ef:=fun val w'=>vt (P:=P) (a:=a) (val:=val) (w:=w) (w':=w') ai
  generalize dM:a.eval x=dy at fz ef;generalize fj:a.eval y=fX at eH ef;cases fz;obtain ⟨vs,cx,cE,dz⟩:=aI.wf.obj _ _ (al.get I);have gm:vs.toList.length=cap:=by rw [cE.length,cm]
  have iG:=cE.take n;have sQ:=oQ iG j2;have tN:∀ w':World,(∀ j,w'.cell? ⟨b,j,none⟩=w.cell? ⟨b,j,none⟩)→(Builtin.firstCells 1 n (.slice (some ⟨b,0,none⟩) n cap)).run P w' = .ok (vs.toList.take n).toArray w':=by
    intro w' jc;refine run_firstCells_some (P:=P) w' 1 n ⟨b,0,none⟩ n cap (vs.toList.take n) (by rw [ah',gm];omega) (fun j u hu=>?_);rw [lf,aj8,jc,jN cx];rw [al'] at hu;split at hu
    · simpa using hu
    · cases hu
  by_cases au:cap<n+1
  · obtain ⟨aW,b0,cs',w',eD,fh,gv,jx,mW,mX,ov,ow⟩:=MC (ty:=o.type) aP aI.wf (base:=some ⟨b,0,none⟩) (n:=n) (cap:=cap) (olds:=vs.toList.take n) (xs:=cs.take n) aN bw dp ed bP U eE iG yE
      (tN w.drew fun _=>rfl) eH dN ew au aq eR
    have gC:ao.Sub ((aT s R).set aW (.box e cs')) ((aT s L).set aW (.box e cs')):=by
      refine DQ (k := .own aW) ?_;rw [bT];exact y8 (k := .own b) (ao.pR _) bI
    have ay:aT s R aW=none:=by
      have h:=fh;rw [bT] at h;exact (ao.u7 h).2
    exact ⟨_,w',_,p,_,ef _ _ eD,gv,jx.sub gC,mW.sub gC,⟨aW,b0,cs',rfl,rfl,⟨ay,eh⟩,mX,ov,ow⟩,.ho _⟩
  · obtain ⟨info,d,g1,g2,g3,-⟩:=aP.parts aN
    obtain ⟨nB,db,dF,c8,du,-⟩:=aP.parts dp;obtain ⟨jv,j0,ck,cL,ev,ee,lj,mg⟩:=aP.parts bP;have aA:d = .slice e:=by rw [bw] at g3;cases d<;>simp [ec] at g3;rw [g3]
    subst aA;have cH:∀ k,db ≠ .int k:=fun k e'=>by subst e';exact ed k du.symm
    subst dN;obtain ⟨us,hq,oT,jw,jd,sA,sB,sC⟩:=pU (sz':=1) eH (.inr rfl);cases hq with
    | cons u _ wU _ hu xn=>
    cases xn;have ox:∀ x∈[u],x.oneCell'=true:=by intro x aa;rw [i7] at aa;subst aa;exact GL hu ew
    have rJ:flat [u]=[u]:=qL ox;have gE:vs.size=cap:=by rw [← ai8];exact gm
    have cI:=Dp (ty:=o.type) (P:=P) w g2 c8 cH ck b n cap vs cx (xv:=fX) (m:=1) (news:=[u]) (jw P) (by rw [ee,U,← rJ];exact jd P w (fun _ _ _=>rfl)) ox ak (by rw [ee,U,gE];simp;omega);rw [ee,U,am8] at cI;have hc:b4 w p (vs.toList.take n++[u]++vs.toList.drop (n+[u].length)) (cs.take n++[v]++cs.drop (n+1)):=b4.append (b4.append iG (.cons _ _ _ _ hu .nil)) (cE.drop _);have cK:(aT s L) b=some (.box e cs):=al.get I
    obtain ⟨dq,jS,jf⟩:=u' aI.wf cK (vs':=(vs.toList.take n++[u]++vs.toList.drop (n+[u].length)).toArray) (cs':=cs.take n++[v]++cs.drop (n+1)) (fun xq bn=>by
      rw [cx] at bn;cases bn
      simp only [ap2,f0,ah',an0,ad',gm]
      rw [gE];omega) (by simpa using hc) _ C
    obtain ⟨f1,f2⟩:=al.put (.box e (cs.take n++[v]++cs.drop (n+1))) I;refine ⟨_,_,_,p,_,ef _ _ cI,dq,jS,jf,⟨b,cap,cs.take n++[v]++cs.drop (n+1),rfl,f1,f2,?_,by omega,?_⟩,.ho _⟩
    · simp only [f0,ah',an0,ad',cm];omega
    · have:(cs.take n++[v]).length=n+1:=by simp [cm];omega
      rw [al5 ak,am4 ak]
theorem ab.y' (aP:bX P Γ) (I:Ok s L) {t bR e:TypeId} {x y:Operand} {it cT aJ:bQ} {eI b9:Nat} {v:ag} {dW:bM} (ay:guardOf ops env o=some true) (aA:o.dst=some d) (a1:af' d N=true)
  (ai:o.op = .call { callee := .builtin .append,args := #[x,y],argTypes := #[t,bR] }) (aN:Γ.get? t=some it) (bw:it.bN = .aF e) (dp:Γ.get? bR=some cT) (ed:∀ k,cT.bN ≠ .int k)
  (bP:Γ.get? e=some aJ) (U:aJ.size=1) (eE:aj4 aJ.zero.cells.size aJ.size=true) (aa:aL env x=some (.aF eI [] .nil)) (ar:aL env y=some (.aF b9 [v] dW)) (dN:b9=1) (ew:eZ v=true) (aq:1*aJ.bytes≤140737488355328)
  (h:∀ aW b0 cs',cs'.length=b0→1≤b0→cs'.take 1=[v]→Ok s ((.own aW,.box e cs')::L)→ab P N ops l Q ((d,dv aW 1 b0)::env) (aT s ((.own aW,.box e cs')::L))):ab P N ops (o::l) Q env (aT s L):=by
 refine ab.op ay aA a1 (aX.y' aP I ai aN bw dp ed bP U eE aa ar dN ew aq (X:=fun _ _=>False)) ?_ (fun _ _ h=>h.elim);rintro r an ⟨aW,b0,cs',rfl,rfl,ad,aj,bk,bF⟩;exact h aW b0 cs' aj bk bF ad
theorem ab.za (aP:bX P Γ) (I:Ok s L) {t bR e:TypeId} {x y:Operand} {it cT aJ:bQ} {b n cap b9:Nat} {cs:List ag} {v:ag} {dW:bM} (ay:guardOf ops env o=some true) (aA:o.dst=some d) (a1:af' d N=true)
  (ai:o.op = .call { callee := .builtin .append,args := #[x,y],argTypes := #[t,bR] }) (aN:Γ.get? t=some it) (bw:it.bN = .aF e) (dp:Γ.get? bR=some cT) (ed:∀ k,cT.bN ≠ .int k)
  (bP:Γ.get? e=some aJ) (U:aJ.size=1) (eE:aj4 aJ.zero.cells.size aJ.size=true) (aa:aL env x=some (dv b n cap)) (al:bm L (.own b) (.box e cs) R) (cm:cs.length=cap) (av:n≤cap) (j2:(cs.take n).all eZ=true)
  (ar:aL env y=some (.aF b9 [v] dW)) (dN:b9=1) (ew:eZ v=true) (aq:(n+1)*aJ.bytes≤140737488355328) (eR:n+1≤9223372036854775807)
  (h:∀ aW b0 cs',cs'.length=b0→n+1≤b0→cs'.take (n+1)=cs.take n++[v]→Ok s ((.own aW,.box e cs')::R)→ab P N ops l Q ((d,dv aW (n+1) b0)::env) (aT s ((.own aW,.box e cs')::R))):ab P N ops (o::l) Q env (aT s L):=by
 refine ab.op ay aA a1 (aX.za aP I ai aN bw dp ed bP U eE aa al cm av j2 ar dN ew aq eR (X:=fun _ _=>False)) ?_ (fun _ _ h=>h.elim);rintro r an ⟨aW,b0,cs',rfl,rfl,ad,aj,bk,bF⟩;exact h aW b0 cs' aj bk bF ad
theorem dx.Hw {B:fP} {ro:Option Nat} {a:Act} {w:World} {p:bV} (h:dx N B ro env s a w p) {t b n cap:Nat} {T:TypeId} {cs:List ag} (aN:env.get? t=some (dv b n cap)) (al:s b=some (.box T cs)) (cm:cs.length=cap) (av:n≤cap) (hm:n≤9223372036854775807)
  (j2:(cs.take n).all eZ=true):∃ bg,dx N B ro ((t,.aF 1 (cs.take n) .a7)::env) (s.del b) a w bg∧c2 w p w bg∧Kept s (s.del b) w p w bg:=by
 have Ma:dx N B ro ((a.tmps.size,.any)::[]) s a w p:=h.restrict _ (fun t v aD=>by
  simp only [Env.get?] at aD
  split at aD
  ·cases aD;exact .any _
  ·cases aD)
 obtain ⟨vs,U,ad,aj⟩:=h.wf.obj _ _ al;have au:b<w.heap.size:=(t6.1 U).1;have hle:c2 w p w (p.dT b True):=⟨rfl,rfl,rfl,t7 _,fun _ _ h => .inl h,fun _ _ _=>rfl,fun _ _ h=>h⟩
 have ax:Kept s (s.del b) w p w (p.dT b True):=⟨fun _ _ _=>rfl,fun aW aq av=>by
  by_cases e:aW=b
  ·subst e;exact ao.ob _ _
  ·rw [ao.nE _ e];exact av,fun aW o aq av aB=>by
   rcases aB with aB|⟨rfl,_⟩
   ·exact aB
   ·rw [al] at av;cases av⟩
 have ca:dn w (p.dT b True) (s.del b):=by
  refine ⟨fun aW o aq=>?_,fun aW o aB=>by rcases aB with aB|⟨rfl,_⟩;exact h.wf.lt _ _ aB;exact au⟩;by_cases e:aW=b
  ·subst e;rw [ao.ob] at aq;cases aq
  ·rw [ao.nE _ e] at aq
   have ai:=h.wf.obj aW o aq;have fo:∀ o,p.dT b True aW o↔p aW o:=fun o=>⟨fun aB=>by rcases aB with aB|⟨e',_⟩;exact aB;exact absurd e' e,.inl⟩
   cases o with
   | box t c=>obtain ⟨us,g1,g2,g3⟩:=ai;exact ⟨us,g1,g2.mono hle,fun o aB=>g3 o ((fo o).1 aB)⟩
   | row t sz n=>obtain ⟨cur,g1,g2,g3,g4⟩:=ai;exact ⟨cur,g1,g2,g3,fun o=>(fo o).trans (g4 o)⟩
   | map es=>obtain ⟨cr,c,g1,g2,g3⟩:=ai;exact ⟨cr,c,g1,⟨g2.1.mono hle,g2.2.mono hle⟩,g3⟩
   | hz es it l c=>exact ai.qt hle C C
   | tick m=>exact ai
   | loop r env=>exact ⟨ai.1,fun t v h=>(ai.2 t v h).mono hle⟩
 have aI:=h.step hle ax ca;refine ⟨_,⟨aI.size,fun bR v aD=>?_,aI.wf,aI.defs,aI.round,aI.base⟩,hle,ax⟩;simp only [Env.get?] at aD;split at aD
 ·rename_i he
  have:=ai3 he;subst this;cases aD;have aC:=h.env t _ aN;generalize a.tmps.getD t undef=dy at aC;cases aC;have iG:=ad.take n;have sQ:=oQ iG j2;have gd:=qL sQ;refine .aF b 0 n cap 1 (vs.toList.take n) (cs.take n) .a7 bc yE ?_ (iG.mono hle) (fun v aD=>by rw [xm (sQ v aD)];rfl) hm av (fun h=>by cases h) (fun b h=>by cases h);rw [gd];intro i v aQ;refine ⟨.inr ⟨rfl,trivial⟩,?_⟩;rw [aj8,jN U];rw [al'] at aQ;split at aQ
  ·simpa using aQ
  ·cases aQ
 ·exact aI.env bR v aD
theorem af.Hw {c:Code} (I:Ok s L) (t b:Nat) {n cap:Nat} {T:TypeId} {cs:List ag} (aN:env.get? t=some (dv b n cap)) (al:bm L (.own b) (.box T cs) R) (cm:cs.length=cap) (av:n≤cap) (hm:n≤9223372036854775807) (j2:(cs.take n).all eZ=true)
  (h:Ok s R→af P N c Q ((t,.aF 1 (cs.take n) .a7)::env) (aT s R)):af P N c Q env (aT s L):=by
 obtain ⟨U,ad⟩:=al.del I;intro tU B a w p eL aI;obtain ⟨bg,aj,bk,bF⟩:=aI.Hw aN (al.get I) cm av hm j2;rw [U] at aj bF;exact mN (h ad tU B a w bg eL aj) fun _ _ _ q=>q.after bk bF
end
section
open Go.Sort
variable {P:Program} {α:Type}
theorem tV {w:World} {p:bV} (k:Nat):c2 w p (Sort.ahead w k) p:=⟨rfl,rfl,rfl,t7 _,fun _ _ h=>h,fun _ _ _=>rfl,fun _ _ h=>h⟩
theorem MD {w:World} {p:bV} {s:ao} (k:Nat) (h:dn w p s):dn (Sort.ahead w k) p s:=h.grow (tV k) (fun _ _=>rfl) (fun _ _ _ h=>h) h.lt
theorem ME {w:World} {p:bV} {s:ao} (k:Nat):Kept s s w p (Sort.ahead w k) p:=⟨fun _ _ _=>rfl,fun _ _ h=>h,fun _ _ _ _ h=>h⟩
theorem Hx (w:World) (os:Array Obj) (b:Nat) (h:b<w.heap.size):(grow w os).heap[b]? = w.heap[b]?:=by
 show (w.heap++os)[b]? = _;rw [Array.getElem?_append_left h]
theorem Hy {w:World} {p:bV} (au:∀ b o,p b o→b<w.heap.size) (os:Array Obj):c2 w p (grow w os) p:=
 c2.of_heap C C C (by show w.heap.size≤(w.heap++os).size;simp) (fun _ _ h=>h) au (fun b aq=>Hx w os b aq)
theorem MF {w:World} {p:bV} {s:ao} (h:dn w p s) (os:Array Obj):dn (grow w os) p s:=
 h.grow (Hy h.lt os) (fun b aq=>Hx w os b aq) (fun _ _ _ h=>h) (fun b o aB=>ap5 (h.lt b o aB) (by show w.heap.size≤(w.heap++os).size;simp))
theorem MG {w:World} {p:bV} {s:ao} (os:Array Obj):Kept s s w p (grow w os) p:=⟨fun b aq _=>Hx w os b aq,fun _ _ h=>h,fun _ _ _ _ h=>h⟩
theorem Hz {w:World} {p:bV} {enc:α→Value} {encA:α→ag} (ad:∀ w p a,Rel w p (enc a) (encA a)):∀ l:List α,b4 w p (l.map enc) (l.map encA)
 | [] => .nil
 | a::l => .cons _ _ _ _ (ad w p a) (Hz ad l)
theorem HA {w:World} {p:bV} {enc:α→Value} {encA:α→ag} (U:∀ w p v a,Rel w p v (encA a)→v=enc a):∀ {l:List α} {vs:List Value},b4 w p vs (l.map encA)→vs=l.map enc
  | [],vs,h=>by cases h;rfl
  | a::l,vs,h=>by
    cases h with
    | cons v _ vs' _ aD aN=>rw [U _ _ _ _ aD,HA U aN];rfl
variable [Inhabited α]
theorem bs.sort {f:FuncId} {enc:α→Value} {encA:α→ag} {le:α→α→Bool} {e:TypeId} (aw:rr P f) (U:∀ w p v a,Rel w p v (encA a)→v=enc a) (ad:∀ w p a,Rel w p (enc a) (encA a))
  (HB:∀ (kW off cap:Nat) (dd:List α) (w:World),Holds enc w kW off dd.toArray→kW<w.heap.size→dd.length<4611686018427387904→Calls P f #[.slice (some ⟨kW,off,none⟩) dd.length cap] w fun e w'=>e = .returned (.tuple #[])∧∃ n os,w'=grow (putRow enc (Sort.ahead w n) kW off (dd.mergeSort le).toArray) os)
  (b cap:Nat) (dd:List α) (rest:List ag) (aE:dd.length<4611686018427387904) :
  bs P f [dv b dd.length cap] [(.own b,.box e (dd.map encA++rest))] (fun o K=>o = .ret (.bW [])∧K=[(.own b,.box e ((dd.mergeSort le).map encA++rest))]):=by
 intro s I;refine ⟨aw,fun w p vs ca eG=>?_⟩;cases eG with
 | cons v _ vs' _ aD aN=>
 cases aN;cases aD;obtain ⟨cur,cx,cE,dz⟩:=ca.obj b _ (ao.fH _ _ _);have au:b<w.heap.size:=(t6.1 cx).1;have cm:cur.toList=dd.map enc++cur.toList.drop dd.length:=by
  have aj:=cE.take dd.length;rw [al5 bc,am4 (l:=dd.map encA) bc] at aj;rw [← HA U aj,am2]
 have iC:dd.length≤cur.size:=by
  have:=cE.length;rw [ai8] at this;rw [this];simp
 have lQ:Holds enc w b 0 dd.toArray:=by
  intro j aK;have xr:j<dd.length:=by simpa using aK
  refine ⟨?_,by simp [World.frozen?,cx]⟩;rw [aj8,jN cx,← as7,cm,ak3 (by simpa using xr),aj6,f8 xr];simp [xr]
 refine Calls.mono (HB b 0 cap dd w lQ au aE) ?_;rintro Xd w' ⟨rfl,k,os,rfl⟩;refine ⟨by simp,.ret (.bW []),aT s [(.own b,.box e ((dd.mergeSort le).map encA++rest))],p,.bW #[] [] .nil,⟨_,rfl,I,rfl,rfl⟩,?_⟩;have iE:(dd.mergeSort le).length=dd.length:=List.length_mergeSort dd;have w8:putRow enc (Sort.ahead w k) b 0 (dd.mergeSort le).toArray=(Sort.ahead w k).setRow b ((dd.mergeSort le).map enc++cur.toList.drop dd.length).toArray:=by
  unfold putRow mapBlock World.setRow;congr 1;refine av6 fun i=>?_
  rw [aq1,aq1];by_cases e:b=i
  ·subst e
   rw [f7 C,f7 C];show (w.heap[b]?).map _=(w.heap[b]?).map _;rw [cx];simp only [an8,onCells];congr 2;refine av6 fun j=>?_
   simp only [putCells,Array.getElem?_mapIdx,g9,true_and,aj8,ap2,iE,aB3];rw [← as7,← as7];by_cases aK:j<dd.length
   ·rw [ak3 (by rw [f6,iE];exact aK),aj6,f8 (l:=dd.mergeSort le) (by rw [iE];exact aK)]
    have:j<cur.toList.length:=by rw [ai8];omega
    rw [f8 this];simp [aK,iE]
   ·rw [ak0 (by rw [f6,iE];omega),f6,iE,List.getElem?_drop]
    rw [show dd.length+(j-dd.length)=j by omega];cases cur.toList[j]? with
    | none=>rfl
    | some y=>simp [aK]
  ·rw [f4 e,f4 e]
 rw [w8];have hc:b4 w p (((dd.mergeSort le).map enc++cur.toList.drop dd.length).toArray).toList ((dd.mergeSort le).map encA++rest):=by
  refine b4.append (Hz ad _) ?_;have:=cE.drop dd.length;rwa [List.drop_append_of_le_length bc,List.drop_of_length_le (l:=dd.map encA) bc,d0] at this
 have fg:=MD k ca;have cK:(aT s [(.own b,.box e (dd.map encA++rest))]) b=some (.box e (dd.map encA++rest)):=ao.fH _ _ _
 obtain ⟨dq,jS,jf⟩:=u' fg cK (vs':=((dd.mergeSort le).map enc++cur.toList.drop dd.length).toArray) (cs':=(dd.mergeSort le).map encA++rest) (fun xq bn=>by
  have Bf:w.heap[b]? = some (.cells xq e (0,0)):=bn
  rw [cx] at Bf;cases Bf
  simp only [ap2,f0,f6,iE,an0,ai8]
  omega) (hc.mono (tV k)) _ C
 rw [show (aT s [(.own b,.box e (dd.map encA++rest))]).set b (.box e ((dd.mergeSort le).map encA++rest))=aT s [(.own b,.box e ((dd.mergeSort le).map encA++rest))] from ao.set_set _ _ _ _] at jS jf;refine ⟨((tV k).trans dq).trans (Hy jf.lt os),((ME k).trans (tV (p:=p) k).size jS).trans ((tV k).trans dq).size (MG os),MF jf os⟩
end
section
variable {P:Program} {Γ:cz} {N:Nat} {ops:Array Oper} {Q:b8→Env→ao→Prop} {env:Env} {s:ao} {l:List Oper} {o:Oper} {d:Nat} {L R c':a6}
theorem ab.Xe (aP:bX P Γ) (I:Ok s L) {t ei fy:TypeId} {x:Operand} {it:bQ} {m:Nat} {es:List (ag×ag)} (ay:guardOf ops env o=some true) (aA:o.dst=some d) (a1:af' d N=true) (ai:o.op = .range t x) (aN:Γ.get? t=some it) (bw:it.bN = .map ei fy)
  (aa:aL env x=some (.map m)) (al:bm L (.own m) (.map es) R) (h:∀ i,Ok s ((.own i,.tick m)::(.own m,.hz es i es none)::R)→ab P N ops l Q ((d,.ptr i 0)::env) (aT s ((.own i,.tick m)::(.own m,.hz es i es none)::R))):ab P N ops (o::l) Q env (aT s L):=by
 refine ab.op ay aA a1 (aX.Wl aP ai aN bw aa (al.get I) (X:=fun _ _=>False)) ?_ (fun _ _ h=>h.elim);rintro r an ⟨i,U,ad,rfl,rfl⟩;obtain ⟨bT,bI⟩:=al.put (.hz es i es none) I;rw [bT];refine h i ⟨?_,bI⟩;show aT s ((.own m,.hz es i es none)::R) i=none;rw [← bT,ao.eQ _ _ ad];exact U
theorem ab.Xf (I:Ok s L) {x:Operand} {m i:Nat} {es left:List (ag×ag)} {cur:Option (ag×ag)} (ay:guardOf ops env o=some true) (aA:o.dst=some d) (a1:af' d N=true) (ai:o.op = .next x false) (aa:aL env x=some (.ptr i 0))
  (aQ:bm L (.own i) (.tick m) c') (al:bm L (.own m) (.hz es i left cur) R) (bn:left=[]→ab P N ops l Q ((d,.bW [.bool false])::env) (aT s L))
  (U:∀ l₁ k v l₂,left=l₁++(k,v)::l₂→Ok s ((.own m,.hz es i (l₁++l₂) (some (k,v)))::R)→ab P N ops l Q ((d,.bW [.bool true,k,v])::env) (aT s ((.own m,.hz es i (l₁++l₂) (some (k,v)))::R))):ab P N ops (o::l) Q env (aT s L):=by
 refine ab.op ay aA a1 (aX.Wm ai aa (al.get I) (aQ.get I) (X:=fun _ _=>False)) ?_ (fun _ _ h=>h.elim);rintro r an (⟨aE,rfl,rfl⟩|⟨l₁,k,v,l₂,aE,rfl,rfl⟩)
 ·exact bn aE
 ·obtain ⟨bT,bI⟩:=al.put (.hz es i (l₁++l₂) (some (k,v))) I
  rw [bT];exact U l₁ k v l₂ aE bI
theorem ab.Xg (I:Ok s L) {x:Operand} {m i:Nat} {es left:List (ag×ag)} {k v:ag} (ay:guardOf ops env o=some true) (aA:o.dst=some d) (a1:af' d N=true) (ai:o.op = .entry x) (aa:aL env x=some (.ptr i 0))
  (al:bm L (.own m) (.hz es i left (some (k,v))) R) (h:ab P N ops l Q ((d,.bW [k,v])::env) (aT s L)):ab P N ops (o::l) Q env (aT s L):=
 ab.op ay aA a1 (aX.Wr ai aa (al.get I) (X:=fun _ _=>False)) (fun x an ⟨U,ad⟩=>by subst U;subst ad;exact h) (fun _ _ h=>h.elim)
end
section
variable {P:Program} {Γ:cz} {N:Nat} {env:Env} {s:ao}
variable {ops:Array Oper} {l:List Oper} {Q:b8→Env→ao→Prop} {o:Oper} {d m:Nat}
end
section
variable {P:Program} {Γ:cz} {N:Nat} {Q:b8→Env→ao→Prop} {env:Env} {s:ao} {l:List Oper} {m:Nat}
end
theorem hX.args {P:Program} {f:FuncId} {xs ys:List ag} {s:ao} {R:eS→ao→Prop} (aE:b5 xs ys) (h:hX P f ys s R):hX P f xs s R:=
 ⟨h.1,fun w p vs ca aC=>h.2 w p vs ca (aE.rel aC)⟩
theorem bs.args {P:Program} {f:FuncId} {xs ys:List ag} {K:a6} {aik:eS→a6→Prop} (h:b5 xs ys) (k:bs P f ys K aik):bs P f xs K aik:=fun s I=>hX.args h (k s I)
theorem aY.args {P:Program} {f:FuncId} {xs ys:List ag} {v:ag} (h:b5 xs ys) (k:aY P f ys v):aY P f xs v:=fun s=>hX.args h (k s)
theorem iS {Γ:cz} {env:Env} {s:ao} {a b:Nat} {t T:TypeId} {i:bQ} {cs:List ag} {v:ag} (he:env.get? a=some (.ptr b 0)) (aQ:Γ.get? t=some i) (al:s b=some (.box T cs)) (aE:hB i cs 0=some v) :
  nI Γ env s [.cell a t]=some v:=by simp [nI,vb,yW,he,aQ,al,aE]
theorem sR {Γ:cz} {env:Env} {s:ao} {a b c:Nat} {t T:TypeId} {i:bQ} {cs:List ag} {v u:ag} (he:env.get? a=some (.ptr b 0)) (aQ:Γ.get? t=some i) (al:s b=some (.box T cs)) (aE:hB i cs 0=some v) (aw:env.get? c=some u) :
  nI Γ env s [.cell a t,.tmp c]=some (.bW [v,u]):=by simp [nI,vb,yW,he,aQ,al,aE,aw]
theorem ab.hv {P:Program} {N:Nat} {ops:Array Oper} {Q:b8→Env→ao→Prop} {env:Env} {s:ao} {l:List Oper} {L:a6} (I:Ok s L) (e:TypeId) (sz n:Nat) (h:Ok s ((.nil,.row e sz n)::L)→ab P N ops l Q env (aT s ((.nil,.row e sz n)::L))):ab P N ops l Q env (aT s L):=h ⟨trivial,I⟩
theorem af.hv {P:Program} {N:Nat} {Q:b8→Env→ao→Prop} {env:Env} {s:ao} {c:Code} {L:a6} (I:Ok s L) (e:TypeId) (sz n:Nat) (h:Ok s ((.nil,.row e sz n)::L)→af P N c Q env (aT s ((.nil,.row e sz n)::L))):af P N c Q env (aT s L):=h ⟨trivial,I⟩
def MH (P:Program) {α:Type} (bh:α→ag) (l:Nat) (Go:List α→a6→Prop) (fu:a6→Prop) (fC:ag→a6→Prop):Prop:=
 ∀ x rem K,Go (x::rem) K→df P (ml l) [bh x] K (fun o aM=>(o = .ret (.bool true)∧Go rem aM)∨(o = .ret (.bool false)∧fu aM)∨∃ v,o = .panic v∧fC v aM)
def vu (P:Program) (f:FuncId) (first cap:List ag) (nO:a6) {α:Type} (bh:α→ag) (xs:List α):Prop:=
 ∀ (l:Nat) (Go:List α→a6→Prop) (fu:a6→Prop) (fC:ag→a6→Prop),MH P bh l Go fu fC→∀ K,Go xs K →
  bs P f (first++([ml l]++cap)) (nO++K) (fun o aM=>(o = .ret (.bW [])∧(Go [] aM∨fu aM))∨∃ v,o = .panic v∧fC v aM)
theorem az.fQ:∀ L:a6,az L L []
 | [] => .nil
 | (_,_)::L => .cons .here (az.fQ L)
theorem az.there {L K R:a6} {e:bM×ds} (h:az L K R):az (e::L) K (e::R):=by
 induction h with
 | nil=>exact .nil
 | cons h t a8=>exact .cons (.there h) a8
theorem az.app {L K R aM c':a6} (h:az L K R) (eA:az R aM c'):az L (K++aM) c':=by
 induction h with
 | nil=>exact eA
 | cons h t a8=>exact .cons h (a8 eA)
theorem bm.app {L R:a6} {k:bM} {o:ds}:∀ (K:a6),bm L k o R→bm (K++L) k o (K++R)
 | [],h=>h
 | _::K,h => .there (bm.app K h)
theorem bm.Xh {L R:a6} {k:bM} {o:ds} (h:bm L k o R) (M:a6):bm (L++M) k o (R++M):=by
 induction h with
 | here=>exact .here
 | there h a8=>exact .there a8
theorem az.kA {L K c' R:a6} (h:az L K c'):az (L++R) K (c'++R):=by
 induction h with
 | nil=>exact .nil
 | cons h t a8=>exact .cons (h.Xh _) a8
def At (s:ao) (aid:a6→Prop) (an:ao):Prop:=∃ L K R,an=aT s L∧Ok s L∧az L K R∧aid K
theorem At.mk {s:ao} {aid:a6→Prop} {L R:a6} (K:a6) (I:Ok s L) (al:az L K R) (aG:aid K):At s aid (aT s L):=⟨L,K,R,rfl,I,al,aG⟩
theorem iN.less {P:Program} {fv:ag} {args:List ag} {s:ao} {R c':eS→ao→Prop} (h:iN P fv args s R) (aC:∀ o an,R o an→∃ eM,ao.Sub eM an∧c' o eM):iN P fv args s c':=by
 intro w p v vs ca aD gE;refine (h w p v vs ca aD gE).mono ?_;rintro e w' ⟨o,an,bg,U,ad,aj,bk,bF⟩;obtain ⟨eM,ck,cL⟩:=aC o an ad;exact ⟨o,eM,bg,U,cL,aj,bk.sub ck,bF.sub ck⟩
section
variable {P:Program} {N:Nat} {Q:b8→Env→ao→Prop} {env:Env} {s:ao} {L R:a6}
theorem af.zb {α:Type} {bh:α→ag} {xs:List α} {t:Tmp} {g:Operand} {hl body:Code} {f:FuncId} {first cap:List ag} {nO:a6} (I:Ok s L) (ay:aL env g=some (.func f first cap)) (a1:t<N)
  (kX:vu P f first cap nO bh xs) (al:az L nO R) (aid:List α→a6→Prop) (J:Code→a6→Prop) (tW:ag→a6→Prop) (bn:aid xs R)
  (tA:∀ s x rem K,aid (x::rem) K→Ok s K→af P N hl (b8.andThen (af P N body (DH (At s (aid rem)) (fun j=>At s (J j)) (fun v=>At s (tW v)))) (fun _ _ _=>False)) ((t,bh x)::env) (aT s K))
  (av:∀ K,aid [] K→Ok s K→Q .normal env (aT s K))
  (aK:∀ j K,J j K→Ok s K→af P N j Q env (aT s K))
  (aa:∀ v K,tW v K→Ok s K→Q (.panic v) env (aT s K)):af P N (.rangeFunc g #[t] hl body) Q env (aT s L):=by
 refine af.Mg ay (by intro bR dp;simp at dp;subst dp;exact a1) fun l r aE HC=>?_
 have HD:Ok s ((.own l,.loop r env)::L):=⟨aE,I⟩;have nP:MH P bh l (fun rem K=>∃ aM,K=(.own l,.loop r env)::aM∧aid rem aM) (fun K=>∃ j aM,K=(.own l,.loop (rF r j) env)::aM∧J j aM) (fun v K=>∃ aM,K=(.own l,.loop (busy r) env)::aM∧tW v aM):=by
  rintro x rem _ ⟨K,rfl,aG⟩ an Bg;refine (HC [bh x] _ (At an (aid rem)) (fun j=>At an (J j)) (fun v=>At an (tW v)) (ao.fH _ _ _) C ?_).less ?_
  ·have:=ao.AM (aT an K) l (.loop r env) Bg.1
   show af P N hl _ _ (((aT an K).set l (.loop r env)).del l);rw [this];exact tA an x rem K aG Bg.2
  ·have key:∀ {L K R:a6} {o:ds},aT an L l=none→Ok an L→az L K R→ao.Sub (aT an ((.own l,o)::K)) ((aT an L).set l o)∧Ok an ((.own l,o)::K):=by
    intro L K R o U ad aj;exact (az.cons bm.here aj).sub (L:=(.own l,o)::L) ⟨U,ad⟩
   rintro o eM (⟨rfl,dD,U,rfl,L,aM,R,rfl,ad,bk,aj⟩|⟨rfl,j,dD,U,rfl,L,aM,R,rfl,ad,bk,aj⟩|⟨v,dD,rfl,U,rfl,L,aM,R,rfl,ad,bk,aj⟩)
   ·obtain ⟨ck,cL⟩:=key U ad bk (o := .loop r env)
    exact ⟨_,ck,(.own l,.loop r env)::aM,rfl,cL,.inl ⟨rfl,aM,rfl,aj⟩⟩
   ·obtain ⟨ck,cL⟩:=key U ad bk (o := .loop (rF r j) env)
    exact ⟨_,ck,(.own l,.loop (rF r j) env)::aM,rfl,cL,.inr (.inl ⟨rfl,j,aM,rfl,aj⟩)⟩
   ·obtain ⟨ck,cL⟩:=key U ad bk (o := .loop (busy r) env)
    exact ⟨_,ck,(.own l,.loop (busy r) env)::aM,rfl,cL,.inr (.inr ⟨v,rfl,aM,rfl,aj⟩)⟩
 have iF:=(kX l _ _ _ nP _ ⟨R,rfl,bn⟩).at HD ((al.there (e:=(.own l,.loop r env))).app (az.fQ _));refine iF.mono ?_;rintro o eM ⟨M,rfl,jg,aM,rfl,h⟩;rw [d7] at jg ⊢;rcases h with ⟨rfl,⟨m5,rfl,h⟩|⟨j,m5,rfl,h⟩⟩|⟨v,rfl,m5,rfl,h⟩
 ·exact .inl ⟨aT s m5,jg.1,rfl,av m5 h jg.2⟩
 ·exact .inr ⟨j,aT s m5,jg.1,rfl,aK j m5 h jg.2⟩
 ·exact ⟨aT s m5,_,jg.1,rfl,aa v m5 h jg.2⟩
end
section
variable {P:Program} {Γ:cz} {N:Nat} {l:List Oper} {Q:b8→Env→ao→Prop} {env:Env} {s:ao} {m d:Nat} {o:Oper} {L K R:a6} {aik:eS→a6→Prop}
theorem bb.bL (i:Nat) {f:FuncId} {h1:Array Operand} {cP:Array TypeId} {xs:List ag} (aC:fA l.toArray m (idxs 0 l)=[i]) (ai:l.toArray[i]? = some o) (aA:o.dst=some d) (a1:af' d N=true)
  (ay:dO l env o) (cG:o.op = .call { callee := .value (.func f),args:=h1,argTypes:=cP }) (bp:gu (cF l env o) h1.toList=some xs) (h:bs P f xs K aik) (I:Ok s L) (al:az L K R)
  (ax:∀ x aM,aik (.ret x) aM→Ok s (aM++R)→bb P Γ N l.toArray Q (cA (m|||2^i)) ((d,x)::env) (aT s (aM++R))) (aa:∀ x aM,aik (.panic x) aM→Ok s (aM++R)→Q (.panic x) [] (aT s (aM++R))):bb P Γ N l.toArray Q (cA m) env (aT s L):=
 bH.bL aC ai aA a1 ay cG bp h I al (fun _ _ _ _ => .inl trivial) ax aa
end
section
variable {P:Program} {N:Nat} {Q:b8→Env→ao→Prop} {env:Env} {s:ao} {L:a6}
def vw {σ:Type} (s:ao) (E:σ→Env) (K:σ→a6) (aid:σ→Prop) (Q:b8→Env→ao→Prop):b8→Env→ao→Prop
 | .normal,e5,an=>∃ y o2 c',aid y∧Env.Sub (E y) e5∧an=aT s o2∧Ok s o2∧az o2 (K y) c'
 | e,e5,an=>Q e e5 an
theorem vw.mk {σ:Type} {E:σ→Env} {K:σ→a6} {aid:σ→Prop} (y:σ) {c':a6} (I:Ok s L) (aG:aid y) (gB:Env.Sub (E y) env) (cK:az L (K y) c'):vw s E K aid Q .normal env (aT s L):=⟨y,L,c',aG,gB,rfl,I,cK⟩
theorem af.MI {σ:Type} {x y:Code} {pK:b8→Env→ao→Prop} (E:σ→Env) (K:σ→a6) (aid:σ→Prop) (A':af P N x (vw s E K aid pK) env (aT s L)) (Ba:∀ z,aid z→Ok s (K z)→af P N y Q (E z) (aT s (K z))) :
  af P N x (b8.andThen (af P N y Q) pK) env (aT s L):=by
 refine A'.mono ?_;intro e e5 an h;cases e with
 | normal=>
  obtain ⟨z,o2,c',g1,g2,rfl,g3,g4⟩:=h;obtain ⟨ck,cL⟩:=g4.sub g3;exact af.sub _ g2 (af.drop _ ck (Ba z g1 cL))
 | exit id=>exact h
 | ret=>exact h
 | panic v=>exact h
end
section
variable {P:Program} {N:Nat} {ops:Array Oper} {Q:b8→Env→ao→Prop} {env:Env} {s:ao} {l:List Oper} {o:Oper} {d:Nat}
end
theorem HE {P:Program} {cs:List Frame} (T:List Deferred):∀ (cb:List Nat) (hn:Frame) (w:World),hn.mode ≠ .run→hn.defers=marksOf cb++T →
  (∀ d∈cb,w.heap[d]? = some (.deferred (some [])))→cb.Nodup→Steps P (lone hn cs w) (lone { hn with defers:=T } cs (hy w cb)):=by
 intro cb
 induction cb with
 | nil=>
  intro hn w _ aA _ _;have:({ hn with defers:=T }:Frame)=hn:=by cases hn;simp_all [marksOf]
  rw [this];exact .refl P _
 | cons d cb a8=>
  intro hn w hm aA aq av;have n7:w.heap[d]? = some (.deferred (some [])):=aq d (g8 ..);have aN:(Instr.takeDeferred d).run P w = .ok [] { w with heap:=w.heap.setIfInBounds d (.deferred none) }:=by
   unfold Instr.takeDeferred;simp only [H1,getObj,setObj,Sem.run,n7,Result.andThen];rfl
  have U:step P (lone hn cs w) = .next (lone { hn with defers:=marksOf cb++T } cs { w with heap:=w.heap.setIfInBounds d (.deferred none) }):=by
   refine step_lone_go ?_;cases wF:hn.mode with
   | run=>exact absurd wF hm
   | returning=>simp [stepG,unwind,wF,aA,marksOf,ay6,aN]
   | panicking chain=>simp [stepG,unwind,wF,aA,marksOf,ay6,aN]
  have eK:=List.nodup_cons.1 av;refine .head U (a8 { hn with defers:=marksOf cb++T } _ hm C ?_ eK.2);intro db cH;have cN:d≠db:=fun e=>eK.1 (e ▸ cH)
  simp only [Array.getElem?_setIfInBounds,cN,al0];exact aq db (f9 _ cH)
def Xi (P:Program) (fn:Func) (R:Ending→World→Prop) (T:List Deferred):hx→Act→World→Prop
 | .normal,a,w | .ret,a,w=>∃ cb,a.defers=marksOf cb++T∧cb.Nodup∧(∀ d∈cb,w.heap[d]? = some (.deferred (some [])))∧Leaves P fn a.tmps R T .returning (hy w cb)
 | .panic dC,a,w=>∃ cb,a.defers=marksOf cb++T∧cb.Nodup∧(∀ d∈cb,w.heap[d]? = some (.deferred (some [])))∧Leaves P fn a.tmps R T (.panicking dC) (hy w cb)
 | .exit _,_,_=>False
theorem MJ {P:Program} {f:FuncId} {fn:Func} {DU eD rest:Code} {args:Array Value} {w:World} {R:Ending→World→Prop} {T:List Deferred}
  (aZ:P.funcs[f]? = some fn) (aq:fn.body=some (.seq DU (.seq eD rest)))
  (h:DU.wp P (fun e a w=>e = .normal∧eD.wp P (fun e a w=>e = .normal∧∀ b:Frame,b.roundOf=none→b.fn=f→ka P b rest (Xi P fn R T) a w) a w) { tmps:=args++ao' (fn.ntmps-args.size) undef,defers:=[] } w) :
  Calls P f args w R:=by
 intro cs
 let b:Frame:={ (default:Frame) with fn:=f,kind := .normal,roundOf:=none }
 have tz:Frame.enter P f args .normal =
   b.at { tmps:=args++ao' (fn.ntmps-args.size) undef,defers:=[] } [.code (.seq DU (.seq eD rest))]:=by
  simp [Frame.enter,Frame.at,aZ,aq,b]
 obtain ⟨js,a0,lp,⟨rfl,U⟩,DV⟩:=h b [.code (.seq eD rest)] cs;obtain ⟨bT,fg,dq,⟨rfl,ad⟩,s1⟩:=U b [.code rest] cs;have Xj:Steps P (lone (b.at { tmps:=args++ao' (fn.ntmps-args.size) undef,defers:=[] } [.code DU,.code (.seq eD rest)]) cs w) (lone (b.at a0 [.code (.seq eD rest)]) cs lp):=DV;have Xk:Steps P (lone (b.at a0 [.code eD,.code rest]) cs lp) (lone (b.at fg [.code rest]) cs dq):=s1;have AQ:Steps P (lone (Frame.enter P f args .normal) cs w) (lone (b.atR fg [.code rest]) cs dq):=by
  rw [tz,Frame.atR_of_none C];exact .head step_seq (Xj.trans (.head step_seq Xk))
 obtain ⟨e,dm,w',bf,fW⟩:=ad b rfl rfl [] cs;cases e with
 | normal=>
  obtain ⟨cb,aA,av,jL,bE⟩:=bf;have al:=Steps.trans (Steps.trans AQ fW) (Steps.trans (.one (stepR_end C)) (HE T cb { b.atR dm [] with mode := .returning } w' bc aA jL av));obtain ⟨e',mO,Bh,e4,gU,eL,aE⟩:=leaves_steps T .returning _ { b.atR dm [] with mode := .returning,defers:=T } cs rfl rfl rfl aZ rfl bE;exact ⟨e',mO,Bh,e4,Comes.of_steps al gU,eL,aE⟩
 | ret=>
  obtain ⟨cb,aA,av,jL,bE⟩:=bf;obtain ⟨k₁,al⟩:=fW;have al:=Steps.trans (Steps.trans AQ al) (Steps.trans (.one (stepR_ret C)) (HE T cb { b.atR dm (.code .ret::k₁) with mode := .returning } w' bc aA jL av));obtain ⟨e',mO,Bh,e4,gU,eL,aE⟩:=leaves_steps T .returning _ { b.atR dm (.code .ret::k₁) with mode := .returning,defers:=T } cs rfl rfl rfl aZ rfl bE;exact ⟨e',mO,Bh,e4,Comes.of_steps al gU,eL,aE⟩
 | panic dC=>
  obtain ⟨cb,aA,av,jL,bE⟩:=bf;obtain ⟨k₁,al⟩:=fW;have al:=Steps.trans (Steps.trans AQ al) (HE T cb { b.atR dm k₁ with mode := .panicking dC } w' bc aA jL av);obtain ⟨e',mO,Bh,e4,gU,eL,aE⟩:=leaves_steps T (.panicking dC) _ { b.atR dm k₁ with mode := .panicking dC,defers:=T } cs rfl rfl rfl aZ rfl bE;exact ⟨e',mO,Bh,e4,Comes.of_steps al gU,eL,aE⟩
 | exit id=>exact bf.elim
section
variable {P:Program} {Γ:cz} {N:Nat} {ops:Array Oper} {Q:b8→Env→ao→Prop} {env:Env} {s:ao} {l:List Oper} {o:Oper} {d:Nat} {L R:a6}
theorem aX.lq (aP:bX P Γ) {t e:TypeId} {x y:Operand} {it aJ:bQ} {b n cap:Nat} {k:IntKind} {i:Int} {j:Nat} (ai:o.op = .indexAddr t x y) (aN:Γ.get? t=some it) (bw:it.bN = .aF e) (bP:Γ.get? e=some aJ)
  (aa:aL env x=some (dv b n cap)) (ar:aL env y=some (.int k i)) (ft:i=(j:Int)) (aK:j<n):aX P N o env s (fun x an=>x = .ptr b (j*aJ.size)∧an=s) (fun _ _=>False):=by
 refine aX.mR hZ fun ro B a w p aI=>?_
 obtain ⟨info,d,U,ad,aj,-⟩:=aP.parts aN;obtain ⟨jv,j0,ck,cL,ev,ee,-⟩:=aP.parts bP;have aA:d = .slice e:=by rw [bw] at aj;cases d<;>simp [ec] at aj;rw [aj]
 subst aA;have aC:=aI.aL aa;have lk:=aI.aL ar;generalize dM:a.eval x=dy at aC;generalize fj:a.eval y=fX at lk;cases lk;subst ft;cases aC;refine .same (val := .pointer (some ⟨b,j*aJ.size,none⟩)) ?_ (.ptr b _);unfold execOp;rw [ai];simp only [dM,fj];refine gb ?_;have au:(0:Int)≤(j:Int)∧(j:Int)<(n:Int):=by omega
 simp [Instr.indexAt,asIntOf,run_underlying ad,au.2,sizeOf,typeInfo,ck,ee,lf];intro aV;omega
theorem MK {w:World} {p:bV} {sz:Nat}:∀ {xss:List (List ag)} {us:List Value},b4 w p us xss.flatten→(∀ cs∈xss,cs.length=sz)→∃ vs,b4 w p vs (xss.map ag.agg)∧flat vs=us∧∀ v∈vs,v.cells.size=sz
  | [],us,h,_=>by cases h;exact ⟨[],.nil,rfl,by simp⟩
  | cs::r,us,h,aE=>by
    rw [List.flatten_cons] at h;have cm:=aE cs g8;have U:=h.take cs.length;have ad:=h.drop cs.length;rw [List.take_left] at U;rw [List.drop_left] at ad;obtain ⟨vs,g1,g2,g3⟩:=MK ad fun x aa=>aE x (f9 _ aa)
    refine ⟨.agg (us.take cs.length).toArray::vs,.cons _ _ _ _ (.agg _ _ U) g1,?_,fun v aD=>?_⟩
    · have:flat (Value.agg (us.take cs.length).toArray::vs)=us.take cs.length++flat vs:=by simp [flat,Value.cells]
      rw [this,g2,am2]
    · rcases ai1.1 aD with rfl|aD
      · have:=U.length
        simp only [Value.cells,ap2];rw [this,cm]
      · exact g3 v aD
theorem bH.lq {J:ao→Prop} (i:Nat) (aP:bX P Γ) (cU:J s) {m:Nat} {t e:TypeId} {x y:Operand} {it aJ:bQ} {b n cap:Nat} {k:IntKind} {z:Int} {j:Nat} (aC:kR l.toArray m i=true) (aQ:l.toArray[i]? = some o) (aA:o.dst=some d) (a1:af' d N=true)
  (ay:dO l env o) (ai:o.op = .indexAddr t x y) (aN:Γ.get? t=some it) (bw:it.bN = .aF e) (bP:Γ.get? e=some aJ)
  (aa:aL (cF l env o) x=some (dv b n cap)) (ar:aL (cF l env o) y=some (.int k z)) (ft:z=(j:Int)) (aK:j<n)
  (h:bH J P Γ N l.toArray Q (cA (m|||2^i)) ((d,.ptr b (j*aJ.size))::env) s):bH J P Γ N l.toArray Q (cA m) env s:=
 bH.xk cU aC aQ aA a1 ay (fun _ _=>aX.lq aP ai aN bw bP aa ar ft aK) h
end
section
variable {P:Program} {Γ:cz} {N:Nat} {ops:Array Oper} {Q:b8→Env→ao→Prop} {env:Env} {s:ao} {l:List Oper} {o:Oper} {d:Nat}
theorem aX.oy (aP:bX P Γ) {t e:TypeId} {x:Operand} {it:bQ} {b n cap:Nat} (ai:o.op = .call { callee := .builtin .len,args := #[x],argTypes := #[t] }) (aN:Γ.get? t=some it) (bw:it.bN = .aF e) (aa:aL env x=some (dv b n cap)) :
  aX P N o env s (fun x an=>x = .int .i64 n∧an=s) (fun _ _=>False):=by
 refine aX.mR hZ fun ro B a w p aI=>?_
 obtain ⟨info,d,U,ad,aj,-⟩:=aP.parts aN;have aA:d = .slice e:=by rw [bw] at aj;cases d<;>simp [ec] at aj;rw [aj]
 subst aA;have aC:=aI.aL aa;generalize aD:a.eval x=dy at aC;cases aC;refine .same (val := .int .i64 n) ?_ (.int _ _);unfold execOp;rw [ai];simp [Go.resolve,Go.invoke,Go.builtin,H1,ai5,i0,aD,Builtin.len_,run_underlying ad,goInt]
theorem ab.oy (aP:bX P Γ) {t e:TypeId} {x:Operand} {it:bQ} {b n cap:Nat} (ay:guardOf ops env o=some true) (aA:o.dst=some d) (a1:af' d N=true) (ai:o.op = .call { callee := .builtin .len,args := #[x],argTypes := #[t] }) (aN:Γ.get? t=some it) (bw:it.bN = .aF e) (aa:aL env x=some (dv b n cap))
  (h:ab P N ops l Q ((d,.int .i64 n)::env) s):ab P N ops (o::l) Q env s:=
 ab.op ay aA a1 (aX.oy aP ai aN bw aa) (fun x an ⟨U,ad⟩=>by subst U;subst ad;exact h) (fun _ _ h=>h.elim)
theorem aX.HF (aP:bX P Γ) {t e:TypeId} {x y:Operand} {it aJ:bQ} {b n cap k:Nat} {kY:IntKind} (ai:o.op = .slice t x none (some y) none) (aN:Γ.get? t=some it) (bw:it.bN = .aF e) (bP:Γ.get? e=some aJ) (aa:aL env x=some (dv b n cap)) (ar:aL env y=some (.int kY (k:Int))) (ax:k≤cap) :
  aX P N o env s (fun x an=>x=dv b k cap∧an=s) (fun _ _=>False):=by
 refine aX.mR hZ fun ro B a w p aI=>?_
 obtain ⟨info,d,U,ad,aj,-⟩:=aP.parts aN;obtain ⟨jv,j0,ck,cL,ev,ee,-⟩:=aP.parts bP;have aA:d = .slice e:=by rw [bw] at aj;cases d<;>simp [ec] at aj;rw [aj]
 subst aA;have aC:=aI.aL aa;have eH:=aI.aL ar;generalize dM:a.eval x=dy at aC;generalize fj:a.eval y=fX at eH;cases aC;cases eH;refine .same (val := .slice (some ⟨b,0,none⟩) k cap) ?_ (.ho _);unfold execOp;rw [ai];simp only [dM,aq2,an8,fj];refine gb ?_;have av:(0:Int)≤(k:Int):=by omega
 have aw:(k:Int)≤(cap:Int):=by omega
 have aq:(Instr.sliceBounds true n cap none (some (.int kY (k:Int))) none).run P w = .ok (0,k,cap) w:=by
  simp [Instr.sliceBounds,run_sliceBound,av,aw]
 simp only [Instr.sliceAt,Instr.slice,H1,run_underlying ad,i0,aq,sizeOf,typeInfo,run_program,ck,ai5,ee,aB3,aB1];by_cases bn:cap=0
 ·simp [bn]
 ·simp [bn,lf]
theorem ab.lq (aP:bX P Γ) {t e:TypeId} {x y:Operand} {it aJ:bQ} {b n cap:Nat} {k:IntKind} {i:Int} (j:Nat) (ay:guardOf ops env o=some true) (aA:o.dst=some d) (a1:af' d N=true) (ai:o.op = .indexAddr t x y) (aN:Γ.get? t=some it) (bw:it.bN = .aF e) (bP:Γ.get? e=some aJ)
  (aa:aL env x=some (dv b n cap)) (ar:aL env y=some (.int k i)) (ft:i=(j:Int)) (aK:j<n) (h:ab P N ops l Q ((d,.ptr b (j*aJ.size))::env) s):ab P N ops (o::l) Q env s:=
 ab.op ay aA a1 (aX.lq aP ai aN bw bP aa ar ft aK) (fun x an ⟨U,ad⟩=>by subst U;subst ad;exact h) (fun _ _ h=>h.elim)
end
theorem Xl {m n:Nat} (hm:m<2^64) (av:n<2^64):m|||n<2^64:=ao5 hm av
theorem ML {m n:Nat} (hm:m<2^64):m &&& n<2^64:=as5 aG2 hm
def mr (m n:Nat):Nat:=m &&& (18446744073709551615 ^^^ n)
theorem vx (m:Nat):ao6 64 (m:Int)=aE6 64 m:=by
 apply BitVec.eq_of_toNat_eq;rw [BitVec.toNat_ofInt,aq4];omega
theorem wrap64 {m:Nat} (h:m<2^64):ai' .u64 (m:Int)=(m:Int):=by
 unfold ai';simp [aq7,aC7];omega
section
variable {P:Program} {N:Nat} {ops:Array Oper} {Q:b8→Env→ao→Prop} {env:Env} {s:ao} {l:List Oper} {o:Oper} {d:Nat}
theorem aX.shl {t yt:TypeId} {x y:Operand} {k k':IntKind} {a b r:Int} (ai:o.op = .binOp .shl t x y yt) (aa:aL env x=some (.int k a)) (ar:aL env y=some (.int k' b)) (aq:0≤b) (aC:k.wrap (a*2^(min b.toNat k.bits))=r) :
  aX P N o env s (fun x an=>x = .int k r∧an=s) (fun _ _=>False):=by
 refine aX.mR hZ fun ro B dm w p aI=>?_
 have U:=aI.aL aa;have ad:=aI.aL ar;generalize dM:dm.eval x=dy at U;generalize fj:dm.eval y=fX at ad;cases U;cases ad;refine w2 (v := .int k r) ai ?_ ?_ (.int _ _)
 ·rw [dM,fj];unfold eqGuard;simp
 ·rw [dM,fj]
  have dH:¬ b<0:=by omega
  simp only [binOp,Op.shift,dH,al0,aC];rfl
theorem aX.shr {t yt:TypeId} {x y:Operand} {k k':IntKind} {a b r:Int} (ai:o.op = .binOp .shr t x y yt) (aa:aL env x=some (.int k a)) (ar:aL env y=some (.int k' b)) (aq:0≤b) (aC:a.fdiv (2^(min b.toNat k.bits))=r) :
  aX P N o env s (fun x an=>x = .int k r∧an=s) (fun _ _=>False):=by
 refine aX.mR hZ fun ro B dm w p aI=>?_
 have U:=aI.aL aa;have ad:=aI.aL ar;generalize dM:dm.eval x=dy at U;generalize fj:dm.eval y=fX at ad;cases U;cases ad;refine w2 (v := .int k r) ai ?_ ?_ (.int _ _)
 ·rw [dM,fj];unfold eqGuard;simp
 ·rw [dM,fj]
  have dH:¬ b<0:=by omega
  simp only [binOp,Op.shift,dH,al0,aC];rfl
def bitsOf (op:BinOp) (k:IntKind) (a b:Int):Option Int:=match op with
 | .and=>some (k.wrap (ao6 k.bits a &&& ao6 k.bits b).toNat)
 | .or=>some (k.wrap (ao6 k.bits a|||ao6 k.bits b).toNat)
 | .xor=>some (k.wrap (ao6 k.bits a ^^^ ao6 k.bits b).toNat)
 | .andNot=>some (k.wrap (ao6 k.bits a &&& ~~~(ao6 k.bits b)).toNat)
 | _=>none
theorem aX.bits {op:BinOp} {t yt:TypeId} {x y:Operand} {k:IntKind} {a b r:Int} (ai:o.op = .binOp op t x y yt) (aa:aL env x=some (.int k a)) (ar:aL env y=some (.int k b)) (aC:bitsOf op k a b=some r) :
  aX P N o env s (fun x an=>x = .int k r∧an=s) (fun _ _=>False):=by
 refine aX.mR hZ fun ro B dm w p aI=>?_
 have U:=aI.aL aa;have ad:=aI.aL ar;generalize dM:dm.eval x=dy at U;generalize fj:dm.eval y=fX at ad;cases U;cases ad;refine w2 (v := .int k r) ai ?_ ?_ (.int _ _)
 ·rw [dM,fj];unfold eqGuard;cases op<;>first|rfl|(cases aC;done)
 ·rw [dM,fj]
  cases op<;>simp only [bitsOf] at aC<;>first|(cases aC;done)|(cases aC;simp only [binOp,ne_eq,not_true_eq_false,al0,Op.intBits];rfl)
theorem ab.shl {t yt:TypeId} {x y:Operand} {k k':IntKind} {a b:Int} (r:Int) (ay:guardOf ops env o=some true) (aA:o.dst=some d) (a1:af' d N=true) (ai:o.op = .binOp .shl t x y yt) (aa:aL env x=some (.int k a)) (ar:aL env y=some (.int k' b)) (aq:0≤b) (aC:k.wrap (a*2^(min b.toNat k.bits))=r)
  (h:ab P N ops l Q ((d,.int k r)::env) s):ab P N ops (o::l) Q env s:=
 ab.op ay aA a1 (aX.shl ai aa ar aq aC) (fun x an ⟨U,ad⟩=>by subst U;subst ad;exact h) (fun _ _ h=>h.elim)
theorem ab.shr {t yt:TypeId} {x y:Operand} {k k':IntKind} {a b:Int} (r:Int) (ay:guardOf ops env o=some true) (aA:o.dst=some d) (a1:af' d N=true) (ai:o.op = .binOp .shr t x y yt) (aa:aL env x=some (.int k a)) (ar:aL env y=some (.int k' b)) (aq:0≤b) (aC:a.fdiv (2^(min b.toNat k.bits))=r)
  (h:ab P N ops l Q ((d,.int k r)::env) s):ab P N ops (o::l) Q env s:=
 ab.op ay aA a1 (aX.shr ai aa ar aq aC) (fun x an ⟨U,ad⟩=>by subst U;subst ad;exact h) (fun _ _ h=>h.elim)
theorem ab.bits {op:BinOp} {t yt:TypeId} {x y:Operand} {k:IntKind} {a b:Int} (r:Int) (ay:guardOf ops env o=some true) (aA:o.dst=some d) (a1:af' d N=true) (ai:o.op = .binOp op t x y yt) (aa:aL env x=some (.int k a)) (ar:aL env y=some (.int k b)) (aC:bitsOf op k a b=some r)
  (h:ab P N ops l Q ((d,.int k r)::env) s):ab P N ops (o::l) Q env s:=
 ab.op ay aA a1 (aX.bits ai aa ar aC) (fun x an ⟨U,ad⟩=>by subst U;subst ad;exact h) (fun _ _ h=>h.elim)
end
theorem Bi {m n:Nat} (hm:m<2^64) (av:n<2^64):bitsOf .or .u64 (m:Int) (n:Int)=some ((m|||n:Nat):Int):=by
 show some (ai' .u64 ((ao6 64 (m:Int)|||ao6 64 (n:Int)).toNat:Int))=_;rw [vx,vx,BitVec.toNat_or,aq4,aq4,ar7 hm,ar7 av,wrap64 (Xl hm av)]
theorem DW {m n:Nat} (hm:m<2^64) (av:n<2^64):bitsOf .and .u64 (m:Int) (n:Int)=some ((m &&& n:Nat):Int):=by
 show some (ai' .u64 ((ao6 64 (m:Int) &&& ao6 64 (n:Int)).toNat:Int))=_;rw [vx,vx,aB9,aq4,aq4,ar7 hm,ar7 av,wrap64 (ML hm)]
theorem MM {m:Nat} (h:m<2^63):ai' .i64 (m:Int)=(m:Int):=by
 unfold ai';simp [aq7,aC7];omega
theorem HG {m n:Nat} (hm:m<2^63) (av:n<2^63):bitsOf .and .i64 (m:Int) (n:Int)=some ((m &&& n:Nat):Int):=by
 show some (ai' .i64 ((ao6 64 (m:Int) &&& ao6 64 (n:Int)).toNat:Int))=_;rw [vx,vx,aB9,aq4,aq4,ar7 ak,ar7 ak,MM (as5 aG2 hm)]
theorem MN {m n:Nat} (hm:m<2^64) (av:n<2^64):bitsOf .andNot .u64 (m:Int) (n:Int)=some ((mr m n:Nat):Int):=by
 show some (ai' .u64 ((ao6 64 (m:Int) &&& ~~~(ao6 64 (n:Int))).toNat:Int))=_;rw [vx,vx];unfold mr;have h:(aE6 64 m &&& ~~~(aE6 64 n)).toNat=m &&& (18446744073709551615 ^^^ n):=by
  rw [aB9,BitVec.toNat_not,aq4,aq4,ar7 hm,ar7 av];apply au3;intro i;rw [ar1,ar1,Nat.testBit_xor];have ad:2^64-1-n=2^64-(n+1):=by omega
  rw [ad,Nat.testBit_two_pow_sub_succ av,show (18446744073709551615:Nat)=2^64-1 from rfl,am7];by_cases aQ:i<64
  ·simp [aQ]
  ·have:m.testBit i=false:=at8 (ap5 hm (ap4 ak ak))
   simp [this]
 rw [h,wrap64 (ML hm)]
theorem MO {c:Nat} (h:c<64):ai' .u64 (1*2^(min (c:Int).toNat (aq7 .u64)))=((2^c:Nat):Int):=by
 have U:min (c:Int).toNat (aq7 .u64)=c:=by simp [aq7];omega
 rw [U];have ad:(1*2^c:Int)=((2^c:Nat):Int):=by push_cast;omega
 rw [ad,wrap64 (ao0 ak h)]
theorem Bj {m c:Nat} (h:c<64):Int.fdiv (m:Int) (2^(min (c:Int).toNat (aq7 .u64)))=((m >>> c:Nat):Int):=by
 have U:min (c:Int).toNat (aq7 .u64)=c:=by simp [aq7];omega
 rw [U,au2];have ad:(2^c:Int)=((2^c:Nat):Int):=by push_cast;rfl
 rw [ad,Int.fdiv_eq_ediv_of_nonneg _ (Int.natCast_nonneg _)];rfl
theorem af.cc {P:Program} {N:Nat} {Q:b8→Env→ao→Prop} {env:Env} {s:ao} {L:a6} {σ:Type} {c:Code} (hr:List Nat) {Bk:Env} (ax:A8 hr env []=(Bk,())) (I:Ok s L) (dC:σ→Env) (K:σ→a6) (aid:σ→Prop) (μ:σ→Nat) (oO:σ) {Hl:a6} (aG:aid oO) (gB:Env.Sub (dC oO) env) (cK:az L (K oO) Hl)
  (round:∀ x,aid x→Ok s (K x)→af P N c (b8.andThen (bA s (fun z=>dC z++Bk) K aid (fun y=>μ y<μ x)) Q) (dC x++Bk) (aT s (K x))):af P N (.loop c) Q env (aT s L):=
 af.A9 I (fun z=>dC z++Bk) K aid μ oO aG (gB.append (Hk hr [] Bk trivial ax)) cK round
section
variable {P:Program} {Γ:cz} {N:Nat} {ops:Array Oper} {Q:b8→Env→ao→Prop} {env:Env} {s:ao} {l:List Oper} {o:Oper} {d:Nat}
theorem aX.arr (aP:bX P Γ) {t e:TypeId} {x y:Operand} {it aJ:bQ} {k:IntKind} {len b off j:Nat} {i:Int} (ai:o.op = .indexAddr t x y) (aN:Γ.get? t=some it) (bw:it.bN = .arr len e) (bP:Γ.get? e=some aJ) (aa:aL env x=some (.ptr b off)) (ar:aL env y=some (.int k i)) (ft:i=(j:Int)) (aK:j<len) :
  aX P N o env s (fun x an=>x = .ptr b (off+j*aJ.size)∧an=s) (fun _ _=>False):=by
 obtain ⟨info,tX,U,ad,aj,-⟩:=aP.parts aN;obtain ⟨jv,j0,ck,cL,ev,ee,-⟩:=aP.parts bP;obtain rfl:=wM (aj.trans bw);refine aX.mR hZ fun ro B a w p aI=>?_
 have U:=aI.aL aa;have nC:=aI.aL ar;generalize dM:a.eval x=dy at U;generalize fj:a.eval y=fX at nC;cases U;cases nC;subst ft;refine .same (val := .pointer (some ⟨b,off+j*aJ.size,none⟩)) ?_ (.ptr b _);unfold execOp;rw [ai];simp only [dM,fj];refine gb ?_;simp [Instr.indexAt,asIntOf,run_underlying ad,aK,sizeOf,typeInfo,ck,ee,lf,Instr.sureAddr]
theorem aX.xt (aP:bX P Γ) {t e:TypeId} {x y:Operand} {it aJ:bQ} {k:IntKind} {len off j:Nat} {cs:List ag} {i:Int} (ai:o.op = .indexAddr t x y) (aN:Γ.get? t=some it) (bw:it.bN = .arr len e) (bP:Γ.get? e=some aJ) (aa:aL env x=some (.bl cs off)) (ar:aL env y=some (.int k i)) (ft:i=(j:Int)) (aK:j<len) :
  aX P N o env s (fun x an=>x = .bl cs (off+j*aJ.size)∧an=s) (fun _ _=>False):=by
 obtain ⟨info,tX,U,ad,aj,-⟩:=aP.parts aN;obtain ⟨jv,j0,ck,cL,ev,ee,-⟩:=aP.parts bP;obtain rfl:=wM (aj.trans bw);refine aX.mR hZ fun ro B a w p aI=>?_
 have U:=aI.aL aa;have nC:=aI.aL ar;generalize dM:a.eval x=dy at U;generalize fj:a.eval y=fX at nC;cases nC;subst ft;cases U with
 | bl b base o' _ vs _ cW aw aC=>
 refine .same (val := .pointer (some ⟨b,o'+j*aJ.size,none⟩)) ?_ (.bl b base _ _ vs cs ak aw aC);unfold execOp;rw [ai];simp only [dM,fj];refine gb ?_;simp [Instr.indexAt,asIntOf,run_underlying ad,aK,sizeOf,typeInfo,ck,ee,lf,Instr.sureAddr]
theorem ab.arr (aP:bX P Γ) {t e:TypeId} {x y:Operand} {it aJ:bQ} {k:IntKind} {len b off:Nat} {i:Int} (j:Nat) (ay:guardOf ops env o=some true) (aA:o.dst=some d) (a1:af' d N=true) (ai:o.op = .indexAddr t x y) (aN:Γ.get? t=some it) (bw:it.bN = .arr len e) (bP:Γ.get? e=some aJ) (aa:aL env x=some (.ptr b off)) (ar:aL env y=some (.int k i)) (ft:i=(j:Int)) (aK:j<len)
  (h:ab P N ops l Q ((d,.ptr b (off+j*aJ.size))::env) s):ab P N ops (o::l) Q env s:=
 ab.op ay aA a1 (aX.arr aP ai aN bw bP aa ar ft aK) (fun x an ⟨U,ad⟩=>by subst U;subst ad;exact h) (fun _ _ h=>h.elim)
theorem ab.xt (aP:bX P Γ) {t e:TypeId} {x y:Operand} {it aJ:bQ} {k:IntKind} {len off:Nat} {cs:List ag} {i:Int} (j:Nat) (ay:guardOf ops env o=some true) (aA:o.dst=some d) (a1:af' d N=true) (ai:o.op = .indexAddr t x y) (aN:Γ.get? t=some it) (bw:it.bN = .arr len e) (bP:Γ.get? e=some aJ) (aa:aL env x=some (.bl cs off)) (ar:aL env y=some (.int k i)) (ft:i=(j:Int)) (aK:j<len)
  (h:ab P N ops l Q ((d,.bl cs (off+j*aJ.size))::env) s):ab P N ops (o::l) Q env s:=
 ab.op ay aA a1 (aX.xt aP ai aN bw bP aa ar ft aK) (fun x an ⟨U,ad⟩=>by subst U;subst ad;exact h) (fun _ _ h=>h.elim)
end
def pY (first i:Int):List Int→List Int→Bool
 | _,[]=>true
 | seen,c::r=>decide (c≥first)&&(decide (c<first+i)&&(!seen.contains c&&pY first i (seen++[c]) r))
def sS:Nat→List (List Int)→Bool
 | _,[]=>true
 | i,l::r=>decide (l.length≤3)&&(pY 3 i [] l&&sS (i+1) r)
def o4 (g:List (List Int)):Bool:=decide (g.length≤16)&&sS 0 g
def jh (n:Int) (l:List Int):List Int:=l.filter fun x=>x != n
def free (all:List (List Int)) (c:Int):Bool:=all.all fun l => !(l.drop 1).contains c
def pick (all:List (List Int)):List (List Int)→Option Int
 | []=>none
 | []::r=>pick all r
 | (c::_)::r=>if free all c then some c else pick all r
def total (all:List (List Int)):Nat:=(all.map az8).sum
def merge:Nat→List (List Int)→List Int→List Int×Bool
  | 0,_,acc=>(acc,false)
  | k+1,all,acc=>match pick all all with
    | none=>(acc,all.all List.isEmpty)
    | some c=>merge k (all.map (jh c)) (acc++[c])
def merged (all:List (List Int)):List Int×Bool:=merge (total all+1) all []
def parents (g:List (List Int)) (c:Nat):List Int:=if c<3 then [] else g.getD (c-3) []
def kj (gO:List (List Int)):List Int→Option (List (List Int))
 | []=>some []
 | p::r=>if (gO.getD p.toNat []).isEmpty then none else (kj gO r).map fun l=>jh 0 (gO.getD p.toNat [])::l
def lists (g:List (List Int)) (gO:List (List Int)) (c:Nat):Option (List (List Int)):=(kj gO (parents g c)).map fun l=>l++[parents g c]
def order (g:List (List Int)) (gO:List (List Int)) (c:Nat):List Int:=match lists g gO c with
 | none=>[]
 | some all=>if (merged all).2 then (c:Int)::(merged all).1++[0] else []
def gO (g:List (List Int)):Nat→List (List Int)
 | 0=>[[0]]
 | k+1=>gO g k++[order g (gO g k) (k+1)]
theorem zd (g:List (List Int)):∀ k,(gO g k).length=k+1
 | 0=>rfl
 | k+1=>by rw [gO,f0,zd g k];rfl
theorem Bl (n:Int) (l:List Int):(jh n l).length≤l.length:=al8 ..
theorem Xm (n:Int) (l:List Int):jh n (n::l)=jh n l:=by unfold jh;simp
theorem Xn (n:Int) (all:List (List Int)):total (all.map (jh n))≤total all:=by
 unfold total
 induction all with
 | nil=>exact t7 _
 | cons l r a8=>
  have:=Bl n l;simp only [ai2,List.sum_cons] at a8 ⊢;omega
theorem MP {n:Int} {all:List (List Int)} (h:∃ t,n::t∈all):total (all.map (jh n))<total all:=by
 obtain ⟨t,h⟩:=h
 induction all with
 | nil=>cases h
 | cons l r a8=>
  have bn:total (l::r)=l.length+total r:=rfl;have U:total ((l::r).map (jh n))=(jh n l).length+total (r.map (jh n)):=rfl;rw [bn,U];rcases ai1.1 h with rfl|h
  ·have ad:=Bl n t
   have aj:=Xn n r;rw [Xm,i9];omega
  ·have:=a8 h
   have:=Bl n l;omega
theorem ze {all:List (List Int)} {c:Int}:∀ {l:List (List Int)},pick all l=some c→∃ t,c::t∈l
  | [],h=>by cases h
  | []::r,h=>by
    obtain ⟨t,h⟩:=ze (l:=r) h;exact ⟨t,f9 _ h⟩
  | (d::q)::r,h=>by
    rw [pick] at h;split at h
    · cases h;exact ⟨q,g8⟩
    · obtain ⟨t,h⟩:=ze (l:=r) h
      exact ⟨t,f9 _ h⟩
structure xu where
 atom:Int
 no:Int
 yes:Int
 ms:List Int
 deriving DecidableEq,Inhabited
def HH:Nat→List xu→List Int
 | _,[]=>[]
 | i,x::r=>
  let h:=HH (i+1) r
  (if x.atom≥0 then 1+max (h.getD (x.no.toNat-(i+1)) 0) (h.getD (x.yes.toNat-(i+1)) 0) else 0)::h
def xw (g:List xu):Int:=(HH 0 g).getD 0 0
def placeOf (l:List Int) (n:Int):Int:=((l.findIdx? (· == n)).getD 0:Nat)
inductive ae where
 | mk (op arg:Int) (path:List Int) (cls n:Int) (kids:List ae)
namespace ae
def op:ae→Int | .mk o _ _ _ _ _=>o
def arg:ae→Int | .mk _ a _ _ _ _=>a
def path:ae→List Int | .mk _ _ p _ _ _=>p
def cls:ae→Int | .mk _ _ _ c _ _=>c
def n:ae→Int | .mk _ _ _ _ n _=>n
def kids:ae→List ae | .mk _ _ _ _ _ k=>k
mutual
def size:ae→Nat
 | .mk _ _ p _ _ ks=>1+p.length+cM ks
def cM:List ae→Nat
 | []=>0
 | k::r=>k.size+cM r
end
theorem size_eq (x:ae):x.size=1+x.path.length+cM x.kids:=by cases x;rw [size];rfl
theorem hg:∀ {l:List ae} {x:ae},x∈l→x.size≤cM l
  | k::r,x,h=>by
    rw [cM];rcases ai1.1 h with rfl|h
    · omega
    · have:=hg h;omega
theorem vy:∀ l:List ae,l.length≤cM l
 | []=>t7 _
 | k::r=>by have:=vy r;rw [cM,i9,size_eq];omega
instance:Inhabited ae:=⟨.mk 0 0 [] 0 0 []⟩
mutual
def same:ae→ae→Bool
 | .mk o a p c n ks,.mk o' dm bg pX n' Bm=>decide (o=o')&&(decide (a=dm)&&(decide (c=pX)&&(decide (n=n')&&(p==bg&&pZ ks Bm))))
def pZ:List ae→List ae→Bool
 | [],[]=>true
 | x::r,y::t=>same x y&&pZ r t
 | _,_=>false
end
mutual
theorem MQ:∀ (x y:ae),same x y=true↔x=y
  | .mk o a p c n ks,.mk o' dm bg pX n' Bm=>by
    rw [same];simp only [d6,f5,ao7,MR ks Bm,ae.mk.injEq];constructor
    · rintro ⟨U,ad,aj,bk,bF,fx⟩;exact ⟨U,ad,bF,aj,bk,fx⟩
    · rintro ⟨U,ad,bF,aj,bk,fx⟩;exact ⟨U,ad,aj,bk,bF,fx⟩
theorem MR:∀ (x y:List ae),pZ x y=true↔x=y
  | [],[]=>by simp [pZ]
  | [],y::t=>by simp [pZ]
  | x::r,[]=>by simp [pZ]
  | x::r,y::t=>by
    rw [pZ,d6,MQ x y,MR r t,List.cons.injEq]
end
def c7 (f:ae):Bool:=decide (f.op≥2)&&decide (f.op≤4)
def not (f:ae):ae := .mk 5 0 [] 0 0 [f]
def and (f g:ae):ae := .mk 6 0 [] 0 0 [f,g]
end ae
structure bo where
 ps:List (List Int)
 owner:List Int
structure hD where
 slot:Int
 n:Int
structure gG where
 parents:List Int
 bB:List Int
 inits:List hD
 deriving Inhabited
structure hh where
 kind:Int
 gen:Int
 fact:ae
 node:Int
 deriving Inhabited
structure eW where
 op:Int
 n:Int
 kids:List Int
 deriving Inhabited
structure aU where
 ch:List gG
 bB:Int
 dX:List Int
 methods:List hh
 nodes:List eW
 main:Int
structure ji where
 cls:Int
 bB:List (Int×Int)
 deriving Inhabited
def qM (op:Int):Nat:=if op=5 then 1 else if op=6∨op=7 then 2 else 0
def lr (n:Int):Bool:=decide (n ≥ -1000000000)&&decide (n≤1000000000)
def fr (w:bo) (f:ae):Bool:=
 decide (f.op≥1)&&(decide (f.op≤7)&&(decide (f.kids.length=qM f.op) &&
  (if f.c7 then
   decide (f.arg≥0)&&(decide (f.arg<3)&&(decide (f.path.length≤2)&&(f.path.all (fun s=>decide (s≥0)&&decide (s<w.owner.length)) &&
    (if f.op=2 then decide (f.n=0)&&(decide (f.cls≥0)&&decide (f.cls<3+w.ps.length)) else decide (f.cls=0)&&lr f.n))))
  else decide (f.arg=0)&&(decide (f.path.length=0)&&(decide (f.cls=0)&&decide (f.n=0))))))
mutual
def eU (w:bo) (d:Nat) (k:Int):ae→Bool×Int
 | .mk o a p c n ks=>
  if decide (k-1<0)||decide (d=0) then (false,k-1)
  else if fr w (.mk o a p c n ks) then gH w (d-1) (k-1) ks else (false,k-1)
def gH (w:bo) (d:Nat) (k:Int):List ae→Bool×Int
 | []=>(true,k)
 | x::r=>if (eU w d k x).1 then gH w d (eU w d k x).2 r else (false,(eU w d k x).2)
end
def hi (w:bo) (f:ae):Bool:=(eU w 12 24 f).1
def xx:Nat→List (List Int)→Bool
 | _,[]=>true
 | i,l::r=>pY 3 i [] l&&xx (i+1) r
structure fJ (w:bo):Prop where
 few:w.ps.length≤60
 short:∀ l∈w.ps,l.length≤3
 h2:xx 0 w.ps=true
 bB:w.owner.length≤40
 own:∀ o∈w.owner,3≤o∧o<3+(w.ps.length:Int)
def sT (up:List Nat) (l:List Int):Nat:=l.foldl (fun s p=>s|||up.getD p.toNat 0) (1|||2^up.length)
def kk:List Nat→List (List Int)→List Nat
 | up,[]=>up
 | up,l::r=>kk (up++[sT up l]) r
def fK (ps:List (List Int)):List Nat:=kk [1,3,5] ps
theorem MS:∀ (ps:List (List Int)) (up:List Nat),(kk up ps).length=up.length+ps.length
 | [],up=>rfl
 | l::r,up=>by rw [kk,MS r,f0,ad',i9];omega
theorem xy (ps:List (List Int)):(fK ps).length=3+ps.length:=MS ps _
theorem DX:∀ {ps:List (List Int)} {i j:Nat} {l:List Int},xx i ps=true→ps[j]? = some l→pY 3 ((i+j:Nat):Int) [] l=true
  | l::r,i,0,x,h,aa=>by
    rw [xx,d6] at h;have:l=x:=by simpa using aa
    subst this;exact h.1
  | l::r,i,j+1,x,h,aa=>by
    rw [xx,d6] at h;have:=DX (j:=j) h.2 uY;rw [show i+(j+1)=i+1+j by omega];exact this
theorem DY {i:Int}:∀ {l seen:List Int} {k:Nat} {p:Int},pY 3 i seen l=true→l[k]? = some p→3≤p∧p<3+i∧p∉seen++l.take k
  | c::r,seen,0,p,h,aB=>by
    rw [pY] at h;simp only [d6,f5,aj7,List.contains_eq_mem,decide_eq_false_iff_not] at h;have:c=p:=by simpa using aB
    subst this;refine ⟨h.1,h.2.1,by simpa using h.2.2.1⟩
  | c::r,seen,k+1,p,h,aB=>by
    rw [pY] at h;simp only [d6,f5] at h;have:=DY (k:=k) h.2.2.2 (by simpa using aB);refine ⟨this.1,this.2.1,?_⟩;rw [List.take_succ_cons];have aj:=this.2.2;simpa using aj
theorem HI {m n:Nat} (h:m<2^64) (k:n<2^64):m|||n<2^64:=ao5 h k
theorem Xo {up:List Nat} (h:∀ m∈up,m<2^64) (k:Nat):up.getD k 0<2^64:=by
 rw [d9];cases aa:up[k]? with
 | none=>exact Nat.two_pow_pos 64
 | some x=>exact h x (d8 aa)
theorem HJ {up:List Nat} (h:∀ m∈up,m<2^64):∀ (l:List Int) (s:Nat),s<2^64→l.foldl (fun s p=>s|||up.getD p.toNat 0) s<2^64
 | [],s,al=>al
 | p::r,s,al=>HJ h r _ (HI al (Xo h _))
theorem Xp {up:List Nat} (h:∀ m∈up,m<2^64) (aE:up.length<64) (l:List Int):sT up l<2^64:=
 HJ h l _ (HI dh (ao0 ak aE))
theorem MT:∀ (ps:List (List Int)) (up:List Nat),(∀ m∈up,m<2^64)→up.length+ps.length<64→∀ m∈kk up ps,m<2^64
  | [],up,h,_=>h
  | l::r,up,h,aE=>by
    rw [i9] at aE;rw [kk];refine MT r _ (fun m hm=>?_) (by rw [f0,ad'];omega);rcases ab'.1 hm with hm|hm
    · exact h m hm
    · rw [i7] at hm;subst hm
      exact Xp h ak l
theorem HK {ps:List (List Int)} (h:ps.length≤60):∀ m∈fK ps,m<2^64:=
 MT ps _ (by intro m hm;simp at hm;rcases hm with rfl|rfl|rfl<;>decide) ez
theorem MU (l:List Int):∀ (ps:List (List Int)) (up:List Nat),kk up (ps++[l])=kk up ps++[sT (kk up ps) l]
 | [],up=>rfl
 | x::r,up=>by rw [d5,kk,MU l r,← kk]
theorem MV (ps:List (List Int)) (l:List Int):fK (ps++[l])=fK ps++[sT (fK ps) l]:=MU l ps _
def pad (u:List Nat):List Nat:=u++List.replicate (63-u.length) 0
theorem Xq {u:List Nat} (h:u.length≤63):(pad u).length=63:=by unfold pad;simp;omega
theorem HL {u:List Nat} {i:Nat} {m:Nat} (h:u[i]? = some m):(pad u)[i]? = some m:=by
 unfold pad;rw [ak3 (ac'.1 h).1];exact h
theorem Xr {u:List Nat} (h:u.length<63) (v:Nat):(pad u).set u.length v=pad (u++[v]):=by
 unfold pad;rw [ap0 _ _ (t7 _),aw3,aj0,f0,ad'];congr 1;obtain ⟨n,av⟩:∃ n,63-u.length=n+1:=⟨62-u.length,by omega⟩;have ad:63-(u.length+1)=n:=by omega
 rw [av,ad,List.replicate_succ];rfl
mutual
def dU (w:bo):ae→Bool
 | .mk o a p c n ks=>fr w (.mk o a p c n ks)&&hK w ks
def hK (w:bo):List ae→Bool
 | []=>true
 | x::r=>dU w x&&hK w r
end
theorem p0 (w:bo) (f:ae):dU w f=(fr w f&&hK w f.kids):=by cases f;rw [dU];rfl
theorem o5 {w:bo}:∀ {l:List ae} {x:ae},hK w l=true→x∈l→dU w x=true
  | y::r,x,h,aa=>by
    rw [hK,d6] at h;rcases ai1.1 aa with rfl|aa
    · exact h.1
    · exact o5 h.2 aa
mutual
theorem xz:∀ (f:ae) (w:bo) (d:Nat) (k:Int),(eU w d k f).1=true→dU w f=true
  | .mk o a p c n ks,w,d,k,h=>by
    rw [eU] at h;split at h
    · cases h
    · split at h
      · rename_i av
        rw [dU,av,i8];exact MW ks w _ _ h
      · cases h
theorem MW:∀ (l:List ae) (w:bo) (d:Nat) (k:Int),(gH w d k l).1=true→hK w l=true
  | [],_,_,_,_=>rfl
  | x::r,w,d,k,h=>by
    rw [gH] at h;split at h
    · rename_i aa
      rw [hK,xz x w d k aa,MW r w d _ h];rfl
    · cases h
end
mutual
def zf:ae→Int
 | .mk o a p c n ks=>m6 (if (ae.mk o a p c n ks).c7 then a+1 else 0) ks
def m6 (m:Int):List ae→Int
 | []=>m
 | x::r=>m6 (max m (zf x)) r
end
theorem Xs (f:ae):zf f=m6 (if f.c7 then f.arg+1 else 0) f.kids:=by cases f;rw [zf];rfl
theorem MX:∀ (l r:List ae) (m:Int),m6 m (l++r)=m6 (m6 m l) r
 | [],r,m=>by rw [d0,m6]
 | x::l,r,m=>by rw [d5,m6,m6,MX l r]
def zg (n:Int) (v:Int×Int):Bool:=
 if v.1=1 then lr v.2 else if v.1=2 then decide (v.2=0) else decide (v.1=3)&&(decide (v.2≥0)&&decide (v.2<n))
def tY (w:bo) (m:Nat):List Int:=((ak6 w.owner.length).filter fun s=>m.testBit (w.owner.getD s 0).toNat).map fun (s:Nat)=>(s:Int)
def MY (w:bo) (c:Int):Bool:=decide (c≥3)&&decide (c<3+(w.ps.length:Int))
def MZ (w:bo) (n:Int) (o:ji):Bool:=MY w o.cls&&(decide (o.bB.length=(tY w ((fK w.ps).getD o.cls.toNat 0)).length)&&o.bB.all (zg n))
def HM (w:bo) (c0:List ji):Bool:=decide (c0.length≤40)&&c0.all (MZ w c0.length)
def DZ (w:bo) (c0:List ji) (args:List (Int×Int)):Bool:=
 HM w c0&&(decide (args.length≥1)&&(decide (args.length≤3)&&args.all (zg c0.length)))
def lu (w:bo) (c:Int):Nat:=(fK w.ps).getD c.toNat 0
def zh (w:bo) (c0:List ji):Int×Int→List Int→Option (Int×Int)
 | v,[]=>some v
 | v,s::r=>
  let o:=c0.getD v.2.toNat default
  if v.1≠3 then none
  else if (lu w o.cls).testBit (w.owner.getD s.toNat 0).toNat then
   zh w c0 (o.bB.getD (((tY w (lu w o.cls)).findIdx? (· == s)).getD 0) (0,0)) r
  else none
def xA (w:bo) (c0:List ji) (args:List (Int×Int)) (f:ae):Bool:=
 match zh w c0 (args.getD f.arg.toNat (0,0)) f.path with
 | none=>false
 | some v=>
  if f.op=2 then (if v.1=3 then (lu w (c0.getD v.2.toNat default).cls).testBit f.cls.toNat else (lu w v.1).testBit f.cls.toNat)
  else decide (v.1=1)&&((decide (v.2=f.n)==decide (f.op=4))&&decide (v.2≤f.n))
mutual
def M0 (w:bo) (c0:List ji) (args:List (Int×Int)):ae→Bool
 | .mk o a p c n ks=>
  if o=1 then true
  else if o=5 then !(zi w c0 args 0 ks)
  else if o=6 then zi w c0 args 0 ks&&zi w c0 args 1 ks
  else if o=7 then zi w c0 args 0 ks||zi w c0 args 1 ks
  else xA w c0 args (.mk o a p c n ks)
def zi (w:bo) (c0:List ji) (args:List (Int×Int)):Nat→List ae→Bool
 | _,[]=>false
 | 0,x::_=>M0 w c0 args x
 | n+1,_::r=>zi w c0 args n r
end
theorem M1:∀ (a b:List (List Int)) (up:List Nat),kk up (a++b)=kk (kk up a) b
 | [],b,up=>rfl
 | x::a,b,up=>by rw [d5,kk,M1 a b,← kk]
theorem M3:∀ (ps:List (List Int)) (up:List Nat),∃ r,kk up ps=up++r
  | [],up=>⟨[],by rw [kk,d7]⟩
  | l::r,up=>by
    obtain ⟨t,h⟩:=M3 r (up++[sT up l]);exact ⟨[sT up l]++t,by rw [kk,h,aj0]⟩
theorem Bn {ps:List (List Int)} {i k:Nat} (aQ:i≤ps.length) (ax:k<3+i):(fK (ps.take i)).getD k 0=(fK ps).getD k 0:=by
 have h:fK ps=kk (fK (ps.take i)) (ps.drop i):=by
  show kk [1,3,5] ps=kk (kk [1,3,5] (ps.take i)) (ps.drop i);rw [← M1,am2]
 obtain ⟨r,aC⟩:=M3 (ps.drop i) (fK (ps.take i));rw [h,aC];have aE:(fK (ps.take i)).length=3+i:=by rw [xy,ah',ar2 aQ]
 rw [d9,d9,ak3 ak]
theorem Xt {ps:List (List Int)} {i:Nat} {l:List Int} (aE:ps[i]? = some l):(fK ps).getD (3+i) 0=sT (fK (ps.take i)) l:=by
 have aQ:=(ac'.1 aE).1;rw [← Bn (i:=i+1) ak ak];have:ps.take (i+1)=ps.take i++[l]:=by rw [ay5,aE];rfl
 rw [this,MV,d9,ak0 (by rw [xy,ah'];omega)];rw [xy,ah',ar2 ak,aw3];rfl
theorem M4 (up:List Nat) (k:Nat):∀ (l:List Int) (s:Nat),(l.foldl (fun s p=>s|||up.getD p.toNat 0) s).testBit k=(s.testBit k||l.any fun p=>(up.getD p.toNat 0).testBit k)
 | [],s=>by simp
 | p::r,s=>by rw [List.foldl_cons,M4 up k r,aq8,ak',ap3]
theorem Bo (k:Nat):(1:Nat).testBit k=decide (k=0):=by
 cases k with
 | zero=>rfl
 | succ k=>rw [Nat.testBit_succ];simp
theorem Xu (c k:Nat):(2^c).testBit k=decide (c=k):=ap9
theorem HN {w:bo} (hw:fJ w) {i:Nat} {l:List Int} (aE:w.ps[i]? = some l) (k:Nat):((fK w.ps).getD (3+i) 0).testBit k=(decide (k=0)||(decide (3+i=k)||l.any fun p=>((fK w.ps).getD p.toNat 0).testBit k)):=by
 have aQ:=(ac'.1 aE).1;rw [Xt aE,sT,M4,aq8,Bo,Xu];rw [show (fK (w.ps.take i)).length=3+i by rw [xy,ah',ar2 ak],ap3];congr 2;have ay:=DX hw.h2 aE;rw [aj3,ai6,ai6];constructor <;>
 ·rintro ⟨p,aB,h⟩
  obtain ⟨j,aK⟩:=an6 aB;have:=DY ay aK;refine ⟨p,aB,?_⟩;have e:=Bn (ps:=w.ps) (i:=i) (k:=p.toNat) ak ak
  first|rw [← e];exact h|rw [e];exact h
theorem tZ {w:bo} (hw:fJ w) {i:Nat} {l:List Int} (aE:w.ps[i]? = some l) {p:Int} (aB:p∈l):3≤p∧p<3+(i:Int):=by
 obtain ⟨j,aK⟩:=an6 aB;have:=DY (DX hw.h2 aE) aK;omega
theorem D0 {w:bo} (hw:fJ w) {c:Nat} (U:c<3+w.ps.length):((fK w.ps).getD c 0).testBit c=true:=by
 by_cases h:c<3
 ·rw [← Bn (ps:=w.ps) (i:=0) (g9 _) ak,an7]
  rcases (by omega:c=0∨c=1∨c=2) with rfl|rfl|rfl<;>rfl
 ·obtain ⟨i,rfl⟩:∃ i,c=3+i:=⟨c-3,by omega⟩
  rw [HN hw (f8 ak)];simp
theorem M5 {w:bo} {c k:Nat} (aw:c<3) (h:((fK w.ps).getD c 0).testBit k=true):k=c∨k=0:=by
 rw [← Bn (ps:=w.ps) (i:=0) (g9 _) ak,an7] at h;rcases (by omega:c=0∨c=1∨c=2) with rfl|rfl|rfl
 ·rw [show (fK []).getD 0 0=1 from rfl,Bo,f5] at h
  exact .inr h
 ·have:k<2:=by
   rcases au9 k 2 with ad|ad
   ·exact ad
   ·have:=at8 (x:=3) (i:=k) (ap5 dh (ap4 dh ad))
    rw [show (fK []).getD 1 0=3 from rfl,this] at h;cases h
  omega
 ·have:k<3:=by
   rcases au9 k 3 with ad|ad
   ·exact ad
   ·have:=at8 (x:=5) (i:=k) (ap5 dh (ap4 dh ad))
    rw [show (fK []).getD 2 0=5 from rfl,this] at h;cases h
  rcases (by omega:k=0∨k=1∨k=2) with rfl|rfl|rfl
  ·exact .inr C
  ·exact absurd h dh
  ·exact .inl C
theorem zj {w:bo} (hw:fJ w):∀ (n c k:Nat),c<n→c<3+w.ps.length→((fK w.ps).getD c 0).testBit k=true→k≤c∧(3≤c→k=0∨3≤k)
  | 0,_,_,h,_,_=>by omega
  | n+1,c,k,h,aw,aq=>by
    by_cases aj:c<3
    · have:=M5 aj aq;omega
    · obtain ⟨i,rfl⟩:∃ i,c=3+i:=⟨c-3,by omega⟩
      obtain ⟨l,aE⟩:∃ l,w.ps[i]? = some l:=⟨_,f8 ak⟩;rw [HN hw aE] at aq;simp only [aj',f5,ai6] at aq;rcases aq with aq|aq|⟨p,aB,aq⟩
      · omega
      · omega
      · have U:=tZ hw aE aB
        have:=zj hw n p.toNat k ak ak aq;omega
def fY (ps:List (List Int)):Nat→(Nat→Bool)→Nat→Bool
 | 0,f=>f
 | m+1,f=>fY ps m fun k=>f k||(f (3+m)&&(ps.getD m []).contains (k:Int))
theorem HO {w:bo} (hw:fJ w):∀ (m:Nat) (f:Nat→Bool) (k:Nat),k<3→m≤w.ps.length→fY w.ps m f k=f k
  | 0,f,k,_,_=>rfl
  | m+1,f,k,ax,hm=>by
    obtain ⟨l,aE⟩:∃ l,w.ps[m]? = some l:=⟨_,f8 ak⟩;rw [fY,HO hw m _ k ax ak,d9,aE,al1];have:l.contains (k:Int)=false:=by
      rw [Bool.eq_false_iff];intro h;have:=tZ hw aE (am'.1 h);omega
    rw [this,an3,Bool.or_false]
theorem HP {w:bo} (hw:fJ w):∀ (m:Nat) (f:Nat→Bool) (k:Nat),3≤k→m≤w.ps.length→(fY w.ps m f k=true↔f k=true∨∃ j,j<m∧f (3+j)=true∧((fK w.ps).getD (3+j) 0).testBit k=true)
  | 0,f,k,_,_=>by
    rw [fY];constructor
    · exact .inl
    · rintro (h|⟨j,h,_⟩)
      · exact h
      · omega
  | m+1,f,k,ax,hm=>by
    obtain ⟨l,aE⟩:∃ l,w.ps[m]? = some l:=⟨_,f8 ak⟩;rw [fY,HP hw m _ k ax ak,d9,aE,al1];have rK:=HN hw aE k;simp only [aj',d6,am'];constructor
    · rintro ((h|⟨U,ad⟩)|⟨j,aK,h,aq⟩)
      · exact .inl h
      · refine .inr ⟨m,ar8 _,U,?_⟩
        rw [rK];have aj:=tZ hw aE ad;simp only [aj',ai6];exact .inr (.inr ⟨(k:Int),ad,by rw [ai7];exact D0 hw ak⟩)
      · rcases h with h|⟨U,ad⟩
        · exact .inr ⟨j,by omega,h,aq⟩
        · refine .inr ⟨m,ar8 _,U,?_⟩
          rw [rK];simp only [aj',ai6];exact .inr (.inr ⟨((3+j:Nat):Int),ad,by rw [ai7];exact aq⟩)
    · rintro (h|⟨j,aK,h,aq⟩)
      · exact .inl (.inl h)
      · rcases am1.1 aK with aK|rfl
        · exact .inr ⟨j,aK,.inl h,aq⟩
        · rw [rK] at aq
          simp only [aj',f5,ai6] at aq;rcases aq with aq|aq|⟨p,aB,aq⟩
          · omega
          · subst aq;exact .inl (.inl h)
          · have aj:=tZ hw aE aB
            refine .inr ⟨p.toNat-3,by omega,.inr ⟨h,?_⟩,?_⟩
            · rw [show ((3+(p.toNat-3):Nat):Int)=p by omega];exact aB
            · rw [show 3+(p.toNat-3)=p.toNat by omega];exact aq
def D1 (w:bo) (c:Nat):Nat→Bool:=fY w.ps (c-2) fun k=>decide (k=c)
theorem M6 {w:bo} (hw:fJ w) {c k:Nat} (aw:c<3+w.ps.length) (ax:1≤k):D1 w c k=((fK w.ps).getD c 0).testBit k:=by
 unfold D1;by_cases aj:c<3
 ·rw [show c-2=0 by omega,fY,aj3,f5]
  constructor
  ·rintro rfl;exact D0 hw aw
  ·intro h;have:=M5 aj h;omega
 ·by_cases tH:k<3
  ·rw [HO hw _ _ _ tH ak]
   rw [aj3,f5];constructor
   ·omega
   ·intro h;have:=zj hw (c+1) c k ak aw h;omega
  ·rw [aj3,HP hw _ _ _ ak ak]
   simp only [f5];constructor
   ·rintro (rfl|⟨j,aK,rfl,aq⟩)
    ·exact D0 hw aw
    ·exact aq
   ·intro h;exact .inr ⟨c-3,by omega,by omega,by rw [show 3+(c-3)=c by omega];exact h⟩
abbrev bG:=ae×Bool
def rL (x y:bG):Bool:=(x.2==y.2)&&ae.same x.1 y.1
theorem D2 (x y:bG):rL x y=true↔x=y:=by
 obtain ⟨f,b⟩:=x;obtain ⟨g,c⟩:=y;unfold rL;simp only [d6,ao7,ae.MQ,Prod.mk.injEq];exact And.comm
def nQ (out:List bG) (x:bG):List bG:=if out.any (rL x) then out else out++[x]
def iT (a b:List bG):List bG:=b.foldl nQ a
theorem HQ:∀ (b a:List bG),(iT a b).length≤a.length+b.length
  | [],a=>t7 _
  | x::r,a=>by
    have U:=HQ r (nQ a x);have ad:(nQ a x).length≤a.length+1:=by
      unfold nQ;split
      · omega
      · simp
    have aj:iT a (x::r)=iT (nQ a x) r:=rfl;rw [aj,i9];omega
theorem Bp {y:bG}:∀ (b a:List bG),y∈iT a b→y∈a∨y∈b
  | [],a,h => .inl h
  | x::r,a,h=>by
    rcases Bp r (nQ a x) h with h|h
    · unfold nQ at h
      split at h
      · exact .inl h
      · rcases ab'.1 h with h|h
        · exact .inl h
        · exact .inr (by rw [i7] at h;subst h;exact g8)
    · exact .inr (f9 _ h)
mutual
def hL (rM:Bool):ae→List (List bG)
 | .mk o a p c n ks=>
  if o=1 then (if rM then [] else [[]])
  else if o=5 then ir (!rM) 0 ks
  else if (ae.mk o a p c n ks).c7 then [[(.mk o a p c n ks,rM)]]
  else if rM=decide (o=6) then ir rM 0 ks++ir rM 1 ks
  else (ir rM 0 ks).flatMap fun x=>(ir rM 1 ks).map (iT x)
def ir (rM:Bool):Nat→List ae→List (List bG)
 | _,[]=>[]
 | 0,x::_=>hL rM x
 | n+1,_::r=>ir rM n r
end
theorem qN (c:Bool):∀ (n:Nat) (l:List ae) (x:ae),l[n]? = some x→ir c n l=hL c x
 | 0,y::r,x,h=>by rw [ir];simp at h;rw [h]
 | n+1,y::r,x,h=>by rw [ir];exact qN c n r x fG
theorem HR (b:Bool) (f:ae):hL b f=if f.op=1 then (if b then [] else [[]])
  else if f.op=5 then ir (!b) 0 f.kids
  else if f.c7 then [[(f,b)]]
  else if b=decide (f.op=6) then ir b 0 f.kids++ir b 1 f.kids
  else (ir b 0 f.kids).flatMap fun x=>(ir b 1 f.kids).map (iT x):=by cases f;rw [hL];rfl
def M7 (n:Nat) (l:List bG):Prop:=l.length≤n∧∀ x∈l,x.1.size≤n
theorem Xv (f:ae):1≤f.size:=by rw [ae.size_eq];omega
mutual
theorem HS:∀ (f:ae) (b:Bool),∀ l∈hL b f,M7 f.size l
  | .mk o a p c n ks,b,l,h=>by
    rw [hL] at h;have o6:=(ae.mk o a p c n ks).size_eq;have lR:(ae.mk o a p c n ks).kids=ks:=rfl;rw [lR] at o6;split at h
    · split at h
      · cases h
      · rw [i7] at h;subst h;exact ⟨by simp,by simp⟩
    · split at h
      · have:=vz ks _ 0 l h
        exact ⟨by have:=this.1;omega,fun x aa=>by have:=this.2 x aa;omega⟩
      · split at h
        · rw [i7] at h;subst h
          exact ⟨Xv _,fun x aa=>by rw [i7] at aa;subst aa;exact t7 _⟩
        · split at h
          · rcases ab'.1 h with h|h
            · have:=vz ks _ 0 l h
              exact ⟨by have:=this.1;omega,fun x aa=>by have:=this.2 x aa;omega⟩
            · have:=vz ks _ 1 l h
              exact ⟨by have:=this.1;omega,fun x aa=>by have:=this.2 x aa;omega⟩
          · obtain ⟨x,aa,h⟩:=List.mem_flatMap.1 h
            obtain ⟨y,ar,rfl⟩:=ae'.1 h;have U:=M8 ks b x y aa ar;refine ⟨by have:=HQ y x;omega,fun z bO=>?_⟩;rcases Bp y x bO with bO|bO
            · have:=(vz ks _ 0 x aa).2 z bO;omega
            · have:=(vz ks _ 1 y ar).2 z bO;omega
theorem vz:∀ (ks:List ae) (b:Bool) (n:Nat),∀ l∈ir b n ks,M7 (ae.cM ks) l
  | [],b,n,l,h=>by rw [ir] at h;cases h
  | x::r,b,0,l,h=>by
    rw [ir] at h;have:=HS x b l h;rw [ae.cM];exact ⟨by have:=this.1;omega,fun y ar=>by have:=this.2 y ar;omega⟩
  | x::r,b,n+1,l,h=>by
    rw [ir] at h;have:=vz r b n l h;rw [ae.cM];exact ⟨by have:=this.1;omega,fun y ar=>by have:=this.2 y ar;omega⟩
theorem M8:∀ (ks:List ae) (b:Bool) (x y:List bG),x∈ir b 0 ks→y∈ir b 1 ks→x.length+y.length≤ae.cM ks
  | [],b,x,y,h,_=>by rw [ir] at h;cases h
  | k::r,b,x,y,h,eA=>by
    rw [qN b 0 (k::r) k C] at h;rw [show (1:Nat)=0+1 from rfl,ir] at eA;have U:=(HS k b x h).1;have ad:=(vz r b 0 y eA).1;rw [ae.cM];omega
end
structure dk where
 low:Int
 high:Int
 eX:List Int
 fR:Nat
 no:Nat
 whole:Bool
 gx:Bool
 bB:List Int
def jj:dk:=⟨-1000000000,1000000000,[],0,0,false,false,[]⟩
def bt (arg:Int) (path:List Int):List Int:=[arg,(path.length:Int),path.getD 0 0,path.getD 1 0]
def nR (s:Int) (l:List Int):List Int:=if l.contains s then l else (l++[s]).mergeSort (fun a b=>decide (a≤b))
def dk.need (k:dk) (neg:Bool):dk:={ k with gx:=k.gx || !neg }
def dk.slot (k:dk) (s:Int):dk:={ k with bB:=nR s k.bB }
def dk.ask (k:dk) (x:bG):dk:=
 if x.1.op=2 then (if x.2 then { k with no:=k.no|||2^x.1.cls.toNat } else { k with fR:=k.fR|||2^x.1.cls.toNat })
 else if x.1.op=3 then (if x.2 then { k with low:=max k.low x.1.n } else { k with high:=min k.high (x.1.n-1),whole:=true })
 else if x.2 then { k with eX:=k.eX++[x.1.n] }
 else { k with low:=max k.low x.1.n,high:=min k.high x.1.n,whole:=true }
abbrev dP:=List Int→dk
def dP.h3 (σ:dP) (sp:List Int) (k:dk):dP:=fun q=>if q=sp then k else σ q
def gW (neg:Bool) (arg:Int) (path:List Int):Nat→dP→dP
 | 0,σ=>σ.h3 (bt arg []) ((σ (bt arg [])).need neg)
 | j+1,σ=>
  let Bq:=gW neg arg path j σ
  let here:=bt arg (path.take j)
  let M9:=Bq.h3 here ((Bq here).slot (path.getD j 0))
  let there:=bt arg (path.take (j+1))
  M9.h3 there ((M9 there).need neg)
def addLit (σ:dP) (x:bG):dP:=
 let Bq:=gW x.2 x.1.arg x.1.path x.1.path.length σ
 let here:=bt x.1.arg x.1.path
 Bq.h3 here ((Bq here).ask x)
def xB:dP:=fun _=>jj
def ek (l:List bG):dP:=l.foldl addLit xB
theorem M' {s x:Int} {l:List Int}:x∈nR s l↔x=s∨x∈l:=by
 unfold nR;split
 ·rename_i h
  constructor
  ·exact .inr
  ·rintro (rfl|ad)
   ·simpa using h
   ·exact ad
 ·rw [List.mem_mergeSort,ab',i7]
  exact Or.comm
theorem Na (k:dk) (x:bG):(k.ask x).bB=k.bB:=by
 unfold dk.ask
 repeat' split
 all_goals rfl
def rN (w:bo) (σ:dP):Prop:=∀ q,(2≤q.getD 1 0→(σ q).bB=[])∧∀ x∈(σ q).bB,0≤x∧x<(w.owner.length:Int)
theorem rN.h3 {w:bo} {σ:dP} (h:rN w σ) {sp:List Int} {k:dk} (ax:(2≤sp.getD 1 0→k.bB=[])∧∀ x∈k.bB,0≤x∧x<(w.owner.length:Int)):rN w (σ.h3 sp k):=by
 intro q;unfold dP.h3;by_cases e:q=sp
 ·rw [f7 e,e];exact ax
 ·rw [f4 e];exact h q
theorem Nb {w:bo} {neg:Bool} {arg:Int} {path:List Int} (aB:path.length≤2) (al:∀ s∈path,0≤s∧s<(w.owner.length:Int)):∀ (j:Nat),j≤path.length→∀ σ,rN w σ→rN w (gW neg arg path j σ)
  | 0,_,σ,h=>by
    rw [gW];exact h.h3 (h _)
  | j+1,aK,σ,h=>by
    have U:=Nb (neg:=neg) (arg:=arg) aB al j ak σ h;rw [gW];generalize gW neg arg path j σ=HT at U;have au:j<path.length:=by omega
    have ad:rN w (HT.h3 (bt arg (path.take j)) ((HT (bt arg (path.take j))).slot (path.getD j 0))):=by
      refine U.h3 ⟨fun ad=>?_,fun x aa=>?_⟩
      · exfalso
        have:(bt arg (path.take j)).getD 1 0=((path.take j).length:Int):=rfl;rw [this,ah'] at ad;omega
      · have aa:x∈nR (path.getD j 0) (HT (bt arg (path.take j))).bB:=aa
        rcases M'.1 aa with rfl|aa
        · rw [d9,f8 au]
          exact al _ (an9 au)
        · exact (U _).2 x aa
    exact ad.h3 (ad _)
theorem D3 {w:bo} {f:ae} (h:fr w f=true) (aE:f.c7=true):f.path.length≤2∧∀ s∈f.path,0≤s∧s<(w.owner.length:Int):=by
 simp only [fr,aE,ak2,d6,f5,ai4] at h;exact ⟨h.2.2.2.2.2.1,fun s al=>by have:=h.2.2.2.2.2.2.1 s al;omega⟩
theorem Xw {w:bo} {x:bG} (av:fr w x.1=true) (aE:x.1.c7=true) {σ:dP} (h:rN w σ):rN w (addLit σ x):=by
 obtain ⟨U,ad⟩:=D3 av aE;have aj:=Nb (neg:=x.2) (arg:=x.1.arg) U ad x.1.path.length (t7 _) σ h;unfold addLit;simp only;refine aj.h3 ?_;rw [Na];exact aj _
theorem Xx {w:bo} {l:List bG} (h:∀ x∈l,fr w x.1=true∧x.1.c7=true):rN w (ek l):=by
 unfold ek;have key:∀ (l:List bG) (σ:dP),(∀ x∈l,fr w x.1=true∧x.1.c7=true)→rN w σ→rN w (l.foldl addLit σ):=by
  intro l
  induction l with
  | nil=>exact fun σ _ h=>h
  | cons x r a8=>
   intro σ aa Xy;exact a8 _ (fun y ar=>aa y (f9 _ ar)) (Xw (aa x g8).1 (aa x g8).2 Xy)
 exact key l xB h (fun q=>⟨fun _=>rfl,fun x aa=>by cases aa⟩)
def lS (w:bo) (L:List bG):Prop:=∀ x∈L,fr w x.1=true∧x.1.c7=true
def Br (x:bG):ae:=if x.2 then x.1.not else x.1
def rO (arg:Int) (path:List Int) (x:bG):Bool:=decide (x.1.arg=arg)&&x.1.path==path
def eC (L:List bG) (arg:Int) (path:List Int):List bG:=L.filter (rO arg path)
def sU (path HU:List Int):Bool:=decide (path.length≥HU.length)&&path.take HU.length==HU
def nS (arg:Int) (path:List Int) (x:bG):Bool:=decide (x.1.arg=arg)&&sU x.1.path path
def o7 (L:List bG) (arg:Int) (path:List Int) (s:Int):Bool:=L.any (nS arg (path++[s]))
def jC (n:Nat) (L:List bG) (arg:Int) (path:List Int):List Int:=((ak6 n).filter fun s=>o7 L arg path (s:Nat)).map fun s:Nat=>(s:Int)
def hM (L:List bG) (arg:Int) (path:List Int):Bool := !L.any fun x => !x.2&&nS arg path x
def rP (n:Nat) (L:List bG) (arg:Int) (path:List Int):Bool:=(jC n L arg path).all fun s=>hM L arg (path++[s])
def kZ:List bG→Int×Int×List Int→Option (Int×Int×List Int)
 | [],a=>some a
 | x::r,a=>
  if x.1.op=2 then (if decide (x.1.cls>1) != x.2 then none else kZ r a)
  else if x.1.op=3 then (if x.2 then kZ r (max a.1 x.1.n,a.2.1,a.2.2) else kZ r (a.1,min a.2.1 (x.1.n-1),a.2.2))
  else if x.2 then kZ r (a.1,a.2.1,a.2.2++[x.1.n])
  else kZ r (max a.1 x.1.n,min a.2.1 x.1.n,a.2.2)
def o8:Nat→Int→List Int→Int
 | 0,n,_=>n
 | k+1,n,l=>if l.contains n then o8 k (n+1) l else n
def vA (n:Nat) (L:List bG) (arg:Int) (path:List Int):Bool:=
 match kZ (eC L arg path) (-1000000000,1000000000,[]) with
 | none=>false
 | some a=>decide (o8 (a.2.2.length+1) a.1 a.2.2≤a.2.1)&&rP n L arg path
def t' (x:bG):Bool:=(decide (x.1.op=2)&&(decide (x.1.cls=0)||decide (x.1.cls=2)))==x.2
def xC (n:Nat) (L:List bG) (arg:Int) (path:List Int):Bool:=((eC L arg path).all fun x => !t' x)&&rP n L arg path
def qO:List bG→(Nat→Bool)×(Nat→Bool)→Option ((Nat→Bool)×(Nat→Bool))
 | [],a=>some a
 | x::r,a=>
  if x.1.op≠2∨x.1.cls=1∨x.1.cls=2 then (if x.2 then qO r a else none)
  else if x.2 then qO r (a.1,fun k=>if k=x.1.cls.toNat then true else a.2 k)
  else qO r (fun k=>if k=x.1.cls.toNat then true else a.1 k,a.2)
def qP (w:bo) (L:List bG) (cn:List Int→Bool) (arg:Int) (path:List Int):List Int→(Nat→Bool)×(Nat→Bool)→Option ((Nat→Bool)×(Nat→Bool))
 | [],a=>some a
 | s::r,a=>
  if !hM L arg (path++[s]) && !cn (path++[s]) then none
  else qP w L cn arg path r (if hM L arg (path++[s]) then a.1 else fun k=>if k=(w.owner.getD s.toNat 0).toNat then true else a.1 k,
   if cn (path++[s]) then a.2 else fun k=>if k=(w.owner.getD s.toNat 0).toNat then true else a.2 k)
def ua (w:bo) (L:List bG) (cn:List Int→Bool) (arg:Int) (path:List Int):Bool:=
  match qO (eC L arg path) (fun _=>false,fun _=>false) with
  | none=>false
  | some a=>match qP w L cn arg path (jC w.owner.length L arg path) a with
    | none=>false
    | some a => !a.2 0&&(ak6 (3+w.ps.length)).all fun k => !(fY w.ps w.ps.length (fun k=>if k=0 then false else a.1 k) k&&a.2 k)
def sV (w:bo) (L:List bG) (arg:Int):Nat→List Int→Bool
 | 0,_=>false
 | k+1,path=>vA w.owner.length L arg path||(xC w.owner.length L arg path||ua w L (sV w L arg k) arg path)
def ub (w:bo) (L:List bG):Bool:=(ak6 3).all fun a=>sV w L ((a:Nat):Int) 3 []
theorem HV {a b:Int} {p q:List Int} (aB:p.length≤2) (bf:q.length≤2) (h:bt a p=bt b q):a=b∧p=q:=by
 unfold bt at h;simp only [List.cons.injEq,and_true] at h;obtain ⟨U,ad,aj,bk⟩:=h;refine ⟨U,?_⟩
 match p,q,aB,bf with
 | [],[],_,_=>rfl
 | [x],[y],_,_=>simp at aj;rw [aj]
 | [x,l7],[y,Nc],_,_=>simp at aj bk;rw [aj,bk]
 | [],[_],_,_=>simp at ad
 | [],[_,_],_,_=>simp at ad
 | [_],[],_,_=>simp at ad
 | [_],[_,_],_,_=>simp at ad
 | [_,_],[],_,_=>simp at ad
 | [_,_],[_],_,_=>simp at ad
def dk.core (k:dk):dk:={ k with gx:=false,bB:=[] }
theorem Xz (k:dk) (b:Bool):(k.need b).core=k.core:=rfl
theorem Nd (k:dk) (s:Int):(k.slot s).core=k.core:=rfl
theorem XA (k:dk) (x:bG):(k.ask x).core=k.core.ask x:=by
 unfold dk.ask dk.core
 repeat' split
 all_goals rfl
theorem XB (k:dk) (x:bG):(k.ask x).gx=k.gx:=by
 unfold dk.ask
 repeat' split
 all_goals rfl
theorem uc (σ:dP) (sp:List Int) (k:dk) (q:List Int):(σ.h3 sp k) q=if q=sp then k else σ q:=rfl
theorem zk (neg:Bool) (arg:Int) (path:List Int):∀ (j:Nat) (σ:dP) (q:List Int),((gW neg arg path j σ) q).core=(σ q).core
  | 0,σ,q=>by
    rw [gW,uc];split
    · rename_i h;subst h;rfl
    · rfl
  | j+1,σ,q=>by
    rw [gW];simp only [uc];by_cases U:q=bt arg (path.take (j+1))
    · rw [f7 U,Xz]
      split
      · rename_i ad;rw [Nd,zk,U,ad]
      · rw [zk,U]
    · rw [f4 U]
      split
      · rename_i ad;rw [Nd,zk,ad]
      · rw [zk]
theorem Nf (neg:Bool) (arg:Int) (path:List Int) (q:List Int):∀ (j:Nat) (σ:dP),(((gW neg arg path j σ) q).gx=true↔(σ q).gx=true∨neg=false∧∃ i,i≤j∧q=bt arg (path.take i))
  | 0,σ=>by
    rw [gW,uc];by_cases h:q=bt arg []
    · rw [f7 h]
      unfold dk.need;simp only [aj',aj7];rw [h];constructor
      · rintro (U|U)
        · exact .inl U
        · exact .inr ⟨U,0,t7 _,by simp⟩
      · rintro (U|⟨U,_⟩)
        · exact .inl U
        · exact .inr U
    · rw [f4 h]
      constructor
      · exact .inl
      · rintro (U|⟨_,i,aQ,U⟩)
        · exact U
        · exact absurd (by rw [U,show i=0 by omega];simp) h
  | j+1,σ=>by
    have a8:=Nf neg arg path q j σ;rw [gW];simp only [uc];by_cases h:q=bt arg (path.take (j+1))
    · rw [f7 h]
      unfold dk.need;simp only [aj',aj7];have e:∀ k:dk,(k.slot (path.getD j 0)).gx=k.gx:=fun k=>rfl
      have:(if bt arg (path.take (j+1))=bt arg (path.take j) then ((gW neg arg path j σ) (bt arg (path.take j))).slot (path.getD j 0) else (gW neg arg path j σ) (bt arg (path.take (j+1)))).gx=((gW neg arg path j σ) q).gx:=by
        split
        · rename_i ad;rw [e,h,ad]
        · rw [h]
      rw [this,a8];constructor
      · rintro ((U|⟨U,i,aQ,ad⟩)|U)
        · exact .inl U
        · exact .inr ⟨U,i,by omega,ad⟩
        · exact .inr ⟨U,j+1,t7 _,h⟩
      · rintro (U|⟨U,_⟩)
        · exact .inl (.inl U)
        · exact .inr U
    · rw [f4 h]
      have:(if q=bt arg (path.take j) then ((gW neg arg path j σ) (bt arg (path.take j))).slot (path.getD j 0) else (gW neg arg path j σ) q).gx=((gW neg arg path j σ) q).gx:=by
        split
        · rename_i ad;rw [← ad];rfl
        · rfl
      rw [this,a8];constructor
      · rintro (U|⟨U,i,aQ,ad⟩)
        · exact .inl U
        · exact .inr ⟨U,i,by omega,ad⟩
      · rintro (U|⟨U,i,aQ,ad⟩)
        · exact .inl U
        · rcases au9 i (j+1) with aj|aj
          · exact .inr ⟨U,i,by omega,ad⟩
          · exact absurd (by rw [ad,show i=j+1 by omega]) h
theorem Ng (neg:Bool) (arg:Int) (path:List Int) (q:List Int) (s:Int):∀ (j:Nat) (σ:dP),(s∈((gW neg arg path j σ) q).bB↔s∈(σ q).bB∨∃ i,i<j∧q=bt arg (path.take i)∧s=path.getD i 0)
  | 0,σ=>by
    rw [gW,uc];have:(if q=bt arg [] then (σ (bt arg [])).need neg else σ q).bB=(σ q).bB:=by
      split
      · rename_i h;rw [h];rfl
      · rfl
    rw [this];constructor
    · exact .inl
    · rintro (h|⟨i,h,_⟩)
      · exact h
      · omega
  | j+1,σ=>by
    have a8:=Ng neg arg path q s j σ;rw [gW];simp only [uc]
    have e:(if q=bt arg (path.take (j+1)) then (if bt arg (path.take (j+1))=bt arg (path.take j) then ((gW neg arg path j σ) (bt arg (path.take j))).slot (path.getD j 0) else (gW neg arg path j σ) (bt arg (path.take (j+1)))).need neg
        else (if q=bt arg (path.take j) then ((gW neg arg path j σ) (bt arg (path.take j))).slot (path.getD j 0) else (gW neg arg path j σ) q)).bB=(if q=bt arg (path.take j) then ((gW neg arg path j σ) q).slot (path.getD j 0) else (gW neg arg path j σ) q).bB:=by
      by_cases h:q=bt arg (path.take (j+1))
      · rw [f7 h,h]
        show (if _ then _ else _:dk).bB=_;split
        · rename_i ad;rw [ad]
        · rfl
      · rw [f4 h]
        split
        · rename_i ad;rw [ad]
        · rfl
    rw [e];by_cases h:q=bt arg (path.take j)
    · rw [f7 h]
      show s∈nR _ _↔_;rw [M',a8];constructor
      · rintro (U|U|⟨i,aQ,U,ad⟩)
        · exact .inr ⟨j,ar8 _,h,U⟩
        · exact .inl U
        · exact .inr ⟨i,by omega,U,ad⟩
      · rintro (U|⟨i,aQ,U,ad⟩)
        · exact .inr (.inl U)
        · rcases au9 i j with aj|aj
          · exact .inr (.inr ⟨i,aj,U,ad⟩)
          · rw [show i=j by omega] at ad;exact .inl ad
    · rw [f4 h,a8]
      constructor
      · rintro (U|⟨i,aQ,U,ad⟩)
        · exact .inl U
        · exact .inr ⟨i,by omega,U,ad⟩
      · rintro (U|⟨i,aQ,U,ad⟩)
        · exact .inl U
        · rcases au9 i j with aj|aj
          · exact .inr ⟨i,aj,U,ad⟩
          · exact absurd (by rw [U,show i=j by omega]) h
def bK:Nat:=1099511627776
theorem bx:bK=1099511627776:=rfl
theorem b' {α:Type} {f:α→ag} {l:List α} {j:Nat} (h:j<l.length):∃ x,l[j]? = some x∧(l.map f)[j]? = some (f x):=
 ⟨l[j],f8 h,by simp [h]⟩
theorem drop_cons {α:Type} {l:List α} {j:Nat} {x:α} (h:l[j]? = some x):l.drop j=x::l.drop (j+1):=by
 obtain ⟨U,ad⟩:=ac'.1 h;rw [List.drop_eq_getElem_cons U,ad]
theorem fe {α:Type} {l:List α} {j:Nat} (h:l.length≤j):l.drop j=[]:=List.drop_eq_nil_of_le h
theorem fD {α:Type} {l:List α} {j:Nat} {x:α} (h:l[j]? = some x):l.take (j+1)=l.take j++[x]:=by
 rw [ay5,h];rfl
theorem sW {α:Type} {l:List α} {j:Nat} {x:α} (h:l[j]? = some x):j<l.length:=(ac'.1 h).1
def ba (n:Int):ag := .int .i64 n
def br (l:List Int):ag := .aF 1 (l.map ba) .a7
def fk (g:List (List Int)):ag := .aF 1 (g.map br) .a7
theorem XC (l:List Int) (n:Int) (aE:l.length<bK):aY d4 99 [br l,.int .i64 n] (.int .i64 (match l.findIdx? (· == n) with
  | some i=>(i:Int)
  | none => -1)):=by
 have aq:=bx;refine aY.bj ah Tryz.func99 C C fun s I=>?_
 unfold br;refine gp ?_;refine af.cc [0,1,7] C I (σ:=Nat) (fun j=>[(8,.int .i64 (j:Int))]) (fun _=>[]) (fun j=>j≤l.length∧∀ i,i<j→l[i]? ≠ some n) (fun j=>l.length-j) 0 ⟨g9 _,fun i aQ=>absurd aQ (Nat.not_lt_zero _)⟩ (cy C) a' ?_;rintro j ⟨aK,aG⟩ I;refine cl ?_;refine af.cond C (fun au=>?_) (fun aV=>?_);rotate_left;have aV:j=l.length:=by
  have:l.length≤j:=by simpa using aV
  omega
 ·have aa:l.findIdx? (· == n)=none:=by
   rw [am6];intro z bO;obtain ⟨i,aQ⟩:=an6 bO;have U:=sW aQ;have ad:=aG i ak;simp only [beq_eq_false_iff_ne];intro e;subst e;exact ad aQ
  rw [aa];refine fb ?_;exact b2 I
 have au:j<l.length:=by simpa using au
 obtain ⟨y,ar,cf⟩:=b' (f:=ba) au;unfold ba at cf;refine bd ?_;refine af.cond C (fun av=>?_) (fun av=>?_)
 ·have av:n=y:=by simpa using av
  subst av;have aa:l.findIdx? (· == n)=some j:=by
   rw [ak8];refine ⟨au,by simpa using (ac'.1 ar).2,fun i aQ=>?_⟩;have:=aG i aQ;rw [f8 ak] at this;simpa using this
  rw [aa];refine bd ?_;exact b2 I
 ·have av:n≠y:=by simpa using av
  refine bd ?_;refine bA.mk (j+1) I ⟨au,?_⟩ ct a' (by show l.length-(j+1)<l.length-j;omega);intro i aQ;rcases am1.1 aQ with aQ|rfl
  ·exact aG i aQ
  ·rw [ar];intro e;cases e;exact av C
theorem Nh (l:List Int) (n:Int):decide ((match l.findIdx? (· == n) with
  | some i=>(i:Int)
  | none => -1)≥0)=l.contains n:=by
 cases h:l.findIdx? (· == n) with
 | none=>
  rw [am6] at h;have:n∉l:=fun av=>by have:=h n av;simp at this
  simp [this]
 | some i=>
  rw [ak8] at h;obtain ⟨aQ,U,_⟩:=h;have e:l[i]=n:=by simpa using U
  have:n∈l:=by rw [← e];exact an9 aQ
  simp [this]
theorem xD (l:List Int) (n:Int) (aE:l.length<bK):aY d4 40 [br l,.int .i64 n] (.bool (l.contains n)):=by
 rw [← Nh];refine aY.bj ah Tryz.func40 C C fun s I=>?_
 refine cX ?_;refine ab.eT C C C C C (XC l n aE) ?_;refine eB ?_;exact b2 I
theorem D4 (a b:List Int) (aE:a.length<bK) (Bs:b.length<bK):aY d4 262 [br a,br b] (.bool (a==b)):=by
 have aq:=bx;refine aY.bj ah Tryz.func262 C C fun s I=>?_
 unfold br;refine cl ?_;refine af.cond C (fun h=>?_) (fun h=>?_)
 ·have cN:(a==b)=false:=by
   rw [beq_eq_false_iff_ne];intro e;simp [e] at h
  rw [cN];refine o3 ?_;exact b2 I
 ·have cV:a.length=b.length:=by simp at h;omega
  refine bd ?_;refine af.cc [0,1,12] C I (σ:=Nat) (fun j=>[(13,.int .i64 (j:Int))]) (fun _=>[]) (fun j=>j≤a.length∧(a==b)=(a.drop j==b.drop j)) (fun j=>a.length-j) 0 ⟨g9 _,rfl⟩ (cy C) a' ?_;rintro j ⟨aK,aG⟩ I;refine cl ?_;refine af.cond C (fun au=>?_) (fun aV=>?_);rotate_left;have aV:j=a.length:=by
   have:a.length≤j:=by simpa using aV
   omega
  ·rw [fe ak,fe ak] at aG
   rw [aG];refine fb ?_;exact b2 I
  have au:j<a.length:=by simpa using au
  obtain ⟨x,aa,bY⟩:=b' (f:=ba) au;obtain ⟨y,ar,cf⟩:=b' (f:=ba) (by omega:j<b.length);rw [drop_cons aa,drop_cons ar,aE4] at aG;refine bd ?_;refine af.oW ah mixed C (bb.run C ?_);refine bb.idx 2 j C C C C C C C C C C C C C bY C ?_;refine bb.idx 6 j C C C C C C C C C C C C C cf C ?_;refine bb.run C (bb.done C ?_);refine af.cond C (fun av=>?_) (fun av=>?_)
  ·have av:x≠y:=by simpa using av
   rw [aG,beq_false_of_ne av];refine bd ?_;exact b2 I
  ·have av:x=y:=by simpa using av
   subst av;rw [beq_self_eq_true,i8] at aG;refine bd ?_;refine bA.mk (j+1) I ⟨au,aG⟩ ct a' (by show a.length-(j+1)<a.length-j;omega)
theorem D5 (a b:List Int) (aE:a.length<bK) (Bs:b.length<bK):aY d4 22 [br a,br b] (.bool (a==b)):=by
 have aq:=bx;refine aY.bj ah Tryz.func22 C C fun s I=>?_
 unfold br;refine cl ?_;refine af.cond C (fun h=>?_) (fun h=>?_)
 ·have cN:(a==b)=false:=by
   rw [beq_eq_false_iff_ne];intro e;simp [e] at h
  rw [cN];refine o3 ?_;exact b2 I
 ·have cV:a.length=b.length:=by simp at h;omega
  refine bd ?_;refine af.cc [0,1,12] C I (σ:=Nat) (fun j=>[(13,.int .i64 (j:Int))]) (fun _=>[]) (fun j=>j≤a.length∧(a==b)=(a.drop j==b.drop j)) (fun j=>a.length-j) 0 ⟨g9 _,rfl⟩ (cy C) a' ?_;rintro j ⟨aK,aG⟩ I;refine cl ?_;refine af.cond C (fun au=>?_) (fun aV=>?_);rotate_left;have aV:j=a.length:=by
   have:a.length≤j:=by simpa using aV
   omega
  ·rw [fe ak,fe ak] at aG
   rw [aG];refine fb ?_;exact b2 I
  have au:j<a.length:=by simpa using au
  obtain ⟨x,aa,bY⟩:=b' (f:=ba) au;obtain ⟨y,ar,cf⟩:=b' (f:=ba) (by omega:j<b.length);rw [drop_cons aa,drop_cons ar,aE4] at aG;refine bd ?_;refine af.oW ah mixed C (bb.run C ?_);refine bb.idx 2 j C C C C C C C C C C C C C bY C ?_;refine bb.idx 6 j C C C C C C C C C C C C C cf C ?_;refine bb.run C (bb.done C ?_);refine af.cond C (fun av=>?_) (fun av=>?_)
  ·have av:x≠y:=by simpa using av
   rw [aG,beq_false_of_ne av];refine bd ?_;exact b2 I
  ·have av:x=y:=by simpa using av
   subst av;rw [beq_self_eq_true,i8] at aG;refine bd ?_;refine bA.mk (j+1) I ⟨au,aG⟩ ct a' (by show a.length-(j+1)<a.length-j;omega)
theorem XD {α:Type} (q:α→Bool) {l:List α} {j:Nat} {x:α} (h:l[j]? = some x):(l.take (j+1)).filter q=(l.take j).filter q++(if q x then [x] else []):=by
 rw [fD h,List.filter_append];congr 1;cases bf:q x<;>simp [bf]
theorem Ni (fv:ag) (q:Int→Bool) (bf:∀ y,cY d4 fv [.int .i64 y] (.bool (q y))) (l:List Int) (aE:l.length<bK):aY d4 398 [br l,fv] (br (l.filter q)):=by
 have aq:=bx;obtain ⟨xs,fi⟩:∃ xs:Nat→List ag,∀ j,xs j=((l.take j).filter q).map ba:=⟨_,fun _=>rfl⟩;have bn:xs 0=[]:=by rw [fi];rfl
 have j1:∀ j,(xs j).length≤l.length:=fun j=>by
  rw [fi,f6];exact al7 (al8 _ _) (au5 _ _)
 refine aY.bj ah Tryz.func398 C C fun s I=>?_
 unfold br;refine gp ?_;refine af.hv I 3 1 0 fun I=>?_
 refine af.cc [1,8,9] C I (σ:=Nat×bM) (fun q=>[(10,.int .i64 (q.1:Int)),(5,.aF 1 (xs q.1) q.2)]) (fun q=>[(q.2,.row 3 1 (xs q.1).length)]) (fun q=>q.1≤l.length) (fun q=>l.length-q.1) (0,.nil) (g9 _) ⟨⟨_,rfl,aH⟩,⟨_,rfl,by rw [bn];exact aR.nil gF⟩,trivial⟩ (by rw [bn];exact az.fQ _) ?_;rintro ⟨j,own⟩ aK I;simp only at aK I ⊢;refine cl ?_;refine af.cond C (fun au=>?_) (fun aV=>?_);rotate_left;have aV:j=l.length:=by
  have:l.length≤j:=by simpa using aV
  omega
 ·subst aV
  have he:xs l.length=(l.filter q).map ba:=by rw [fi,ag']
  rw [he];refine fb ?_;exact Fin.cZ I C aR.a7
 have au:j<l.length:=by simpa using au
 obtain ⟨y,ar,cf⟩:=b' (f:=ba) au;have al:=fi (j+1);rw [XD q ar,t8,← fi] at al;have mh:=j1 j;have XE:=bf y;unfold ba at cf;refine fc ?_;refine ab.o1 C C C C C C XE ?_;cases aD:q y with
 | true=>
  have al:xs (j+1)=xs j++[.int .i64 y]:=by rw [al,aD];rfl
  have dt:(xs (j+1)).length=(xs j).length+1:=by rw [al];simp
  refine bd ?_;refine ab.gn ah I C C C C C C C dB C C C C C C C C aO h' lP ak (fun b1 I=>?_);refine iQ ?_;refine bA.mk (j+1,.own b1) I au (by repeat (first|exact trivial|refine ⟨⟨_,rfl,aH⟩,?_⟩|refine ⟨⟨_,rfl,aR.of_eq Hv⟩,?_⟩)) (by show az _ [(_,.row _ _ (xs (j+1)).length)] _;rw [dt];exact az.fQ _) (by show l.length-(j+1)<l.length-j;omega)
 | false=>
  have al:xs (j+1)=xs j:=by rw [al,aD];simp
  refine bd ?_;refine bA.mk (j+1,own) I au (by repeat (first|exact trivial|refine ⟨⟨_,rfl,aH⟩,?_⟩|refine ⟨⟨_,rfl,aR.of_eq Hv⟩,?_⟩)) (by show az _ [(_,.row _ _ (xs (j+1)).length)] _;rw [al];exact az.fQ _) (by show l.length-(j+1)<l.length-j;omega)
theorem XF (y:Int):cY d4 (.func 409 [] []) [.int .i64 y] (.bool (y != 0)):=by
 refine cY.ey (first:=[]) (cap:=[]) ?_;refine aY.bj ah Tryz.func409 C C fun s I=>?_
 refine nM ?_;exact b2 I
theorem XG (l:List Int) (aE:l.length<bK):aY d4 397 [br l] (br (jh 0 l)):=by
 refine aY.bj ah Tryz.func397 C C fun s I=>?_
 refine cX ?_;refine ab.eT C C C C C (Ni _ _ XF l aE) ?_;refine eB ?_;exact b2 I
theorem Nj (g:List (List Int)) (ay:g.length<bK):aY d4 337 [fk g] (.bool (o4 g)):=by
 have aq:=bx;refine aY.bj ah Tryz.func337 C C fun s I=>?_
 unfold fk;unfold o4;refine cl ?_;refine af.cond C (fun h=>?_) (fun h=>?_)
 ·have U:decide (g.length≤16)=false:=by simp at h ⊢;omega
  rw [U];refine o3 ?_;exact b2 I
 have U:decide (g.length≤16)=true:=by simp at h ⊢;omega
 have pO:g.length≤16:=ao4 U;rw [U,i8];refine bd ?_;refine af.cc [10,11] C I (σ:=Nat) (fun j=>[(12,.int .i64 (j:Int))]) (fun _=>[]) (fun j=>j≤g.length∧sS 0 g=sS j (g.drop j)) (fun j=>g.length-j) 0 ⟨g9 _,rfl⟩ (cy C) a' ?_;rintro j ⟨aK,aG⟩ I;refine cl ?_;refine af.cond C (fun au=>?_) (fun aV=>?_);rotate_left;have aV:j=g.length:=by
  have:g.length≤j:=by simpa using aV
  omega
 ·rw [fe ak,sS] at aG
  rw [aG];refine fb ?_;exact b2 I
 have au:j<g.length:=by simpa using au
 obtain ⟨l,ar,cf⟩:=b' (f:=br) au;rw [drop_cons ar,sS] at aG;unfold br at cf;refine bd ?_;refine af.cond C (fun h=>?_) (fun h=>?_)
 ·have ad:decide (l.length≤3)=false:=by simp at h ⊢;omega
  rw [aG,ad];refine bd ?_;exact b2 I
 have ad:decide (l.length≤3)=true:=by simp at h ⊢;omega
 have nC:l.length≤3:=ao4 ad;rw [ad,i8] at aG;refine bd ?_;refine af.cc [3,4,10,11,12,20,21] C I (σ:=Nat) (fun k=>[(22,.int .i64 (k:Int))]) (fun _=>[]) (fun k=>k≤l.length∧pY 3 j [] l=pY 3 j (l.take k) (l.drop k)) (fun k=>l.length-k) 0 ⟨g9 _,rfl⟩ (cy C) a' ?_;rintro k ⟨ax,bC⟩ I;refine cl ?_;refine af.cond C (fun dA=>?_) (fun fE=>?_);rotate_left
 ·have fE:l.length≤k:=by simpa using fE
  rw [fe fE,pY] at bC;rw [bC,i8] at aG;refine bd ?_;refine bA.mk (j+1) I ⟨au,aG⟩ ct a' (by show g.length-(j+1)<g.length-j;omega)
 have dA:k<l.length:=by simpa using dA
 obtain ⟨c,aw,o9⟩:=b' (f:=ba) dA;rw [drop_cons aw,pY] at bC;rw [bC] at aG;unfold ba at o9;have w:ai' .i64 (3+(j:Int))=3+(j:Int):=hf ak ak;refine fc ?_;by_cases aj:c<3
 ·rw [M2 (show ¬ c≥3 by omega),aa',aa'] at aG
  refine ab.fM 29 C (i6 aj) ?_;refine bd ?_;rw [aG];exact b2 I
 rw [i6 (show c≥3 by omega),i8] at aG bC;refine ab.eP 29 C (M2 aj) ?_;refine fB ?_;by_cases bk:c≥3+(j:Int)
 ·rw [M2 (show ¬ c<3+(j:Int) by omega),aa'] at aG
  refine ab.fM 35 C (by rw [w];exact i6 bk) ?_;refine bd ?_;rw [aG];exact b2 I
 rw [i6 (show c<3+(j:Int) by omega),i8] at aG bC;refine ab.eP 35 C (by rw [w];exact M2 bk) ?_;have k0:=xD (l.take k) c (by have:=au5 k l;omega);unfold br at k0;rw [at2] at k0;refine fB ?_;refine ab.slice ah 0 k C C C C C C C C (.inr C) (.inl ⟨rfl,rfl⟩) (.inr ⟨_,_,rfl,rfl⟩) (.inl ⟨rfl,rfl⟩) (g9 _) (by simpa using ax) ?_;rw [aq9];refine fB ?_;refine ab.eT C C C C C k0 ?_;cases bF:(l.take k).contains c with
 | true=>
  rw [bF,Bool.not_true,aa'] at aG;refine bd ?_;rw [aG];exact b2 I
 | false=>
  rw [bF,Bool.not_false,i8,← fD aw] at aG bC;refine bd ?_;exact bA.mk (k+1) I ⟨dA,by rw [bC]⟩ ct a' (by show l.length-(k+1)<l.length-k;omega)
structure ud (n b:Nat) (all:List (List Int)):Prop where
 len:all.length≤n
 each:∀ l∈all,l.length≤b∧∀ c∈l,0≤c
theorem ud.jh {n b:Nat} {all:List (List Int)} (h:ud n b all) (c:Int):ud n b (all.map (jh c)):=by
 refine ⟨by rw [f6];exact h.len,fun l aE=>?_⟩;obtain ⟨kg,U,rfl⟩:=ae'.1 aE;obtain ⟨ad,aj⟩:=h.each kg U;exact ⟨al7 (Bl _ _) ad,fun c aw=>aj c (aj1.1 aw).1⟩
theorem Nk {n b:Nat} {all:List (List Int)} (h:ud n b all):total all≤n*b:=by
 obtain ⟨U,ad⟩:=h;have:total all≤all.length*b:=by
  clear U
  induction all with
  | nil=>simp [total]
  | cons l r a8=>
   have aj:=(ad l g8).1;have bk:=a8 (fun x aa=>ad x (f9 _ aa));have bF:total (l::r)=l.length+total r:=rfl;rw [bF,i9,Nat.add_mul];omega
 exact al7 this (Nat.mul_le_mul_right _ U)
theorem XH {all l:List (List Int)} {j:Nat} (h:l[j]? = some []):pick all (l.drop j)=pick all (l.drop (j+1)):=by
 rw [drop_cons h];rfl
theorem XI {all l:List (List Int)} {j:Nat} {c:Int} {r:List Int} (h:l[j]? = some (c::r)):pick all (l.drop j)=if free all c then some c else pick all (l.drop (j+1)):=by
 rw [drop_cons h];rfl
structure xE (g:List (List Int)):Prop where
 len:g.length≤16
 par:∀ (i:Nat) (l:List Int),g[i]? = some l→l.length≤3∧∀ c∈l,3≤c∧c<3+(i:Int)
theorem Nl {f i:Int}:∀ {l seen:List Int},pY f i seen l=true→∀ c∈l,f≤c∧c<f+i
  | [],_,_,c,aw=>by cases aw
  | d::r,seen,h,c,aw=>by
    rw [pY] at h;simp only [d6,f5] at h;rcases ai1.1 aw with rfl|aw
    · exact ⟨h.1,h.2.1⟩
    · exact Nl h.2.2.2 c aw
theorem Nn:∀ {g:List (List Int)} {k:Nat},sS k g=true→∀ i l,g[i]? = some l→l.length≤3∧∀ c∈l,3≤c∧c<3+((k+i:Nat):Int)
  | [],_,_,i,l,aE=>by simp at aE
  | x::r,k,h,i,l,aE=>by
    rw [sS] at h;simp only [d6,f5] at h;cases i with
    | zero=>
      cases aE;exact ⟨h.1,fun c aw=>by have:=Nl h.2.1 c aw;omega⟩
    | succ i=>
      have:=Nn h.2.2 i l aE;rw [show k+1+i=k+(i+1) by omega] at this;exact this
theorem D6 {g:List (List Int)} (h:o4 g=true):xE g:=by
 unfold o4 at h;simp only [d6,f5] at h;refine ⟨h.1,fun i l aE=>?_⟩;have:=Nn h.2 i l aE;simpa using this
theorem xE.parents {g:List (List Int)} (h:xE g) (c:Nat):(parents g c).length≤3∧∀ p∈parents g c,3≤p∧p<(c:Int):=by
 unfold Go.Proofs.YtimbpjfhekcofaaGreat.parents;by_cases aw:c<3
 ·rw [f7 aw];exact ⟨by simp,fun p aB=>by cases aB⟩
 ·rw [f4 aw,d9]
  cases aE:g[c-3]? with
  | none=>exact ⟨by simp,fun p aB=>by simp at aB⟩
  | some l=>
   obtain ⟨U,ad⟩:=h.par _ _ aE;exact ⟨U,fun p aB=>by have:=ad p aB;omega⟩
structure agF (n:Nat) (l:List Int):Prop where
 len:l.length≤n
 pos:∀ c∈l,0≤c
theorem No:∀ (k:Nat) (all:List (List Int)) (acc:List Int),(merge k all acc).1.length≤acc.length+total all
  | 0,_,acc=>by rw [merge];exact aF1 _ _
  | k+1,all,acc=>by
    rw [merge];cases aB:pick all all with
    | none=>exact aF1 _ _
    | some d=>
      simp only;have U:=No k (all.map (jh d)) (acc++[d]);have ad:=MP (ze aB);rw [f0,ad'] at U;omega
theorem Np {o:List (List Int)}:∀ {l:List Int} {r:List (List Int)},kj o l=some r→r.length=l.length
  | [],r,h=>by cases h;rfl
  | p::q,r,h=>by
    rw [kj] at h;split at h
    · cases h
    · cases bf:kj o q with
      | none=>rw [bf] at h;cases h
      | some t=>
        rw [bf] at h;cases h;rw [i9,Np bf,i9]
def pre (x:Option (List (List Int))) (a:List (List Int)):Option (List (List Int)):=x.map fun l=>a++l
theorem XJ (x:Option (List (List Int))):pre x []=x:=by cases x<;>rfl
theorem XK (o:List (List Int)) (a:List (List Int)) (p:Int) (q:List Int):pre (kj o (p::q)) a=if (o.getD p.toNat []).isEmpty then none else pre (kj o q) (a++[jh 0 (o.getD p.toNat [])]):=by
 unfold pre;rw [kj];split
 ·rfl
 ·cases kj o q<;>simp
def D7:Option (List (List Int))→ag
 | some l => .bW [fk l,.bool true]
 | none => .bW [fk [],.bool false]
theorem af.D8 {P:Program} {N:Nat} {Q:b8→Env→ao→Prop} {env:Env} {s:ao} {c:Code} {L:a6} (I:Ok s L) (e:TypeId) (sz n:Nat) (h:Ok s ((.clip,.row e sz n)::L)→af P N c Q env (aT s ((.clip,.row e sz n)::L))):af P N c Q env (aT s L):=h ⟨trivial,I⟩
theorem ab.D8 {P:Program} {N:Nat} {ops:Array Oper} {Q:b8→Env→ao→Prop} {env:Env} {s:ao} {l:List Oper} {L:a6} (I:Ok s L) (e:TypeId) (sz n:Nat) (h:Ok s ((.clip,.row e sz n)::L)→ab P N ops l Q env (aT s ((.clip,.row e sz n)::L))):ab P N ops l Q env (aT s L):=h ⟨trivial,I⟩
theorem HW:∀ (n:Nat) (l:List Int),l.Nodup→(∀ c∈l,0≤c∧c<(n:Int))→l.length≤n
  | 0,[],_,_=>t7 _
  | 0,c::r,_,h=>by have:=h c g8;omega
  | n+1,l,aA,h=>by
    by_cases hm:(n:Int)∈l
    · have U:=HW n (l.erase (n:Int)) (aA.erase _) (fun c aw=>by
        obtain ⟨ad,aj⟩:=aA.mem_erase_iff.1 aw
        have:=h c aj
        omega)
      rw [List.length_erase_of_mem hm] at U;omega
    · have:=HW n l aA (fun c aw=>by
        have U:=h c aw
        have:c≠(n:Int):=fun e=>hm (e ▸ aw)
        omega)
      omega
theorem Nq:∀ (k:Nat) (all:List (List Int)) (acc:List Int),acc.Nodup→(∀ c∈acc,∀ l∈all,c∉l)→(merge k all acc).1.Nodup
  | 0,_,_,h,_=>h
  | k+1,all,acc,h,aA=>by
    rw [merge];cases aB:pick all all with
    | none=>exact h
    | some d=>
      simp only;obtain ⟨t,aN⟩:=ze aB;refine Nq k _ _ ?_ ?_
      · rw [an']
        exact ⟨h,by simp,fun a bp b aq=>by
          rw [i7] at aq;subst aq
          intro e;subst e
          exact aA a bp _ aN g8⟩
      · intro c aw l aE
        obtain ⟨kg,U,rfl⟩:=ae'.1 aE;unfold jh;rw [aj1];rintro ⟨ad,aj⟩;rcases ab'.1 aw with aw|aw
        · exact aA c aw kg U ad
        · rw [i7] at aw;subst aw;simp at aj
theorem Nr {q:Int→Prop}:∀ (k:Nat) (all:List (List Int)) (acc:List Int),(∀ l∈all,∀ c∈l,q c)→(∀ c∈acc,q c)→∀ c∈(merge k all acc).1,q c
  | 0,_,acc,_,h=>h
  | k+1,all,acc,bp,h=>by
    rw [merge];cases aB:pick all all with
    | none=>exact h
    | some d=>
      simp only;refine Nr k _ _ (fun l aE c aw=>?_) (fun c aw=>?_)
      · obtain ⟨kg,U,rfl⟩:=ae'.1 aE
        exact bp kg U c (aj1.1 aw).1
      · rcases ab'.1 aw with aw|aw
        · exact h c aw
        · rw [i7] at aw;subst aw
          obtain ⟨t,aN⟩:=ze aB;exact bp _ aN c g8
theorem HX {q:Int→Prop} {o:List (List Int)} (ai:∀ l∈o,∀ c∈l,q c):∀ {l:List Int} {r:List (List Int)},kj o l=some r→∀ x∈r,∀ c∈x,q c
  | [],r,h,x,aa=>by cases h;cases aa
  | p::t,r,h,x,aa=>by
    rw [kj] at h;split at h
    · cases h
    · cases bf:kj o t with
      | none=>rw [bf] at h;cases h
      | some s=>
        rw [bf] at h;cases h;rcases ai1.1 aa with rfl|aa
        · intro c aw
          have aw:=(aj1.1 aw).1;rw [d9] at aw;cases aE:o[p.toNat]? with
          | none=>rw [aE] at aw;cases aw
          | some l=>rw [aE] at aw;exact ai l (d8 aE) c aw
        · exact HX ai bf x aa
structure HY (n:Nat) (o:List (List Int)):Prop where
 len:∀ l∈o,l.length≤n+2
 D9:∀ l∈o,∀ c∈l,0≤c∧c<(n:Int)
theorem XL {g:List (List Int)} (ay:xE g) {o:List (List Int)} {c:Nat} (aw:c<3+g.length) (ai:HY (3+g.length) o):(order g o c).length≤3+g.length+2∧∀ x∈order g o c,0≤x∧x<((3+g.length:Nat):Int):=by
 unfold order;cases aE:lists g o c with
 | none=>exact ⟨by simp,fun x aa=>by cases aa⟩
 | some all=>
  simp only;split
  ·have aB:=ay.parents c
   have jz:∀ l∈all,∀ c∈l,0≤c∧c<((3+g.length:Nat):Int):=by
    unfold lists at aE;cases bf:kj o (parents g c) with
    | none=>rw [bf] at aE;cases aE
    | some r=>
     rw [bf] at aE;cases aE;intro l aE x aa;rcases ab'.1 aE with aE|aE
     ·exact HX (q:=fun x=>0≤x∧x<((3+g.length:Nat):Int)) ai.D9 bf l aE x aa
     ·rw [i7] at aE;subst aE
      have:=aB.2 x aa;omega
   have U:∀ x∈(merged all).1,0≤x∧x<((3+g.length:Nat):Int):=Nr _ all [] jz (fun c aw=>by cases aw);have ad:(merged all).1.Nodup:=Nq _ all [] List.nodup_nil (fun c aw=>by cases aw);have aj:=HW _ _ ad U;refine ⟨by rw [f0,i9,ad'];omega,fun x aa=>?_⟩;rcases ab'.1 aa with aa|aa
   ·rcases ai1.1 aa with rfl|aa
    ·omega
    ·exact U x aa
   ·rw [i7] at aa;omega
  ·exact ⟨by simp,fun x aa=>by cases aa⟩
theorem Bt {g:List (List Int)} (ay:xE g):∀ k,k<3+g.length→HY (3+g.length) (gO g k)
  | 0,_=>⟨fun l aE=>by rw [gO,i7] at aE;subst aE;simp,fun l aE c aw=>by rw [gO,i7] at aE;subst aE;rw [i7] at aw;omega⟩
  | k+1,h=>by
    have a8:=Bt ay k ak;have U:=XL ay h a8;rw [gO];refine ⟨fun l aE=>?_,fun l aE=>?_⟩
    · rcases ab'.1 aE with aE|aE
      · exact a8.len l aE
      · rw [i7] at aE;subst aE;exact U.1
    · rcases ab'.1 aE with aE|aE
      · exact a8.D9 l aE
      · rw [i7] at aE;subst aE;exact U.2
theorem aR.XM {sz:Nat} {xs ys:List ag} {own:bM} (h:b5 xs ys):aR (.aF sz xs own) (.aF sz ys own):=fun w p v aD=>by
 cases aD with
 | iA _ _ ai=>cases h;exact .iA _ _ ai
 | jo a _ _ ai=>cases h;exact .jo a _ _ ai
 | aF g off n cap _ vs _ _ av aE aw aC al hm ax cm ai=>exact .aF g off n cap _ vs _ _ av (by rw [aE];exact h.length) aw (h.rel aC) al hm ax cm ai
theorem XN {g:List (List Int)} (ay:xE g) {o:List (List Int)} {c:Nat} (ai:HY (3+g.length) o) {all:List (List Int)} (h:lists g o c=some all):ud 4 21 all:=by
 have aB:=ay.parents c;have p1:=ay.len;unfold lists at h;cases bf:kj o (parents g c) with
 | none=>rw [bf] at h;cases h
 | some r=>
  rw [bf] at h;cases h;have aE:=Np bf;refine ⟨by rw [f0,ad'];omega,fun l aE=>?_⟩;rcases ab'.1 aE with aE|aE
  ·refine ⟨?_,fun x aa=>(HX (q:=fun x=>0≤x) (fun l aE c aw=>(ai.D9 l aE c aw).1) bf l aE x aa)⟩
   have key:∀ {l:List Int} {r:List (List Int)},kj o l=some r→∀ x∈r,x.length≤21:=by
    intro l
    induction l with
    | nil=>intro r h x aa;cases h;cases aa
    | cons p t a8=>
     intro r h x aa;rw [kj] at h;split at h
     ·cases h
     ·cases bf:kj o t with
      | none=>rw [bf] at h;cases h
      | some s=>
       rw [bf] at h;cases h;rcases ai1.1 aa with rfl|aa
       ·refine al7 (Bl _ _) ?_
        rw [d9];cases aE:o[p.toNat]? with
        | none=>simp
        | some l=>
         have:=ai.len l (d8 aE);show l.length≤21;omega
       ·exact a8 bf x aa
   exact key bf l aE
  ·rw [i7] at aE;subst aE
   exact ⟨by omega,fun x aa=>by have:=aB.2 x aa;omega⟩
theorem az.all:∀ L:a6,az L L []
 | [] => .nil
 | (_,_)::L => .cons .here (az.all L)
namespace ae
mutual
def bh:ae→ag
 | .mk o a p c n ks => .agg [.int .i64 o,.int .i64 a,.aF 1 (p.map fun i => .int .i64 i) .a7,.int .i64 c,.int .i64 n,.aF 6 (D' ks) .a7]
def D':List ae→List ag
 | []=>[]
 | k::r=>k.bh::D' r
end
theorem Ns:∀ l:List ae,D' l=l.map bh
 | []=>rfl
 | k::r=>by rw [D',ai2,Ns r]
def cells (x:ae):List ag:=[.int .i64 x.op,.int .i64 x.arg,.aF 1 (x.path.map fun i => .int .i64 i) .a7,.int .i64 x.cls,.int .i64 x.n,.aF 6 (x.kids.map bh) .a7]
theorem bJ (x:ae):x.bh = .agg x.cells:=by cases x;rw [bh,Ns];rfl
end ae
def fL (w:bo):List ag:=[fk w.ps,br w.owner]
def jD (w:bo):ag := .agg (fL w)
def kB (x:hD):ag := .agg [.int .i64 x.slot,.int .i64 x.n]
def sX (c:gG):List ag:=[br c.parents,br c.bB,.aF 2 (c.inits.map kB) .a7]
def gX (c:gG):ag := .agg (sX c)
def lT (m:hh):List ag:=[.int .i64 m.kind,.int .i64 m.gen,.int .i64 m.fact.op,.int .i64 m.fact.arg,.aF 1 (m.fact.path.map fun i => .int .i64 i) .a7,.int .i64 m.fact.cls,.int .i64 m.fact.n,.aF 6 (m.fact.kids.map ae.bh) .a7,.int .i64 m.node]
def hE (m:hh):ag := .agg (lT m)
def h4 (x:eW):List ag:=[.int .i64 x.op,.int .i64 x.n,br x.kids]
def ff (x:eW):ag := .agg (h4 x)
def cj (p:aU):List ag:=[.aF 3 (p.ch.map gX) .a7,.int .i64 p.bB,br p.dX,.aF 9 (p.methods.map hE) .a7,.aF 3 (p.nodes.map ff) .a7,.int .i64 p.main]
def cQ (p:aU):ag := .agg (cj p)
theorem cY.Nt {P:Program} {fv:ag} {args:List ag} {v:ag} (h:cY P fv args v):df P fv args [] (fun o K=>o = .ret v∧K=[]):=fun s _=>iN.mono (h s) (fun o an ⟨U,ad⟩=>⟨[],ad,trivial,U,rfl⟩)
theorem bs.Nu {P:Program} {f:FuncId} {args:List ag} {v:ag} (h:bs P f args [] (fun o K=>o = .ret v∧K=[])):aY P f args v:=fun s=>hX.mono (h s trivial) (fun o an ⟨K,U,_,ad,aj⟩=>⟨ad,by subst aj;exact U⟩)
theorem Ea {α:Type} (q:α→Bool):∀ (xs:List α) (j:Nat) (x:α),xs[j]? = some x→q x=true→(∀ (i:Nat) y,i<j→xs[i]? = some y→q y=false)→xs.findIdx? q=some j:=by
 intro xs j x aa bf aQ;obtain ⟨U,ad⟩:=ac'.1 aa;rw [ak8];exact ⟨U,by rw [ad];exact bf,fun i ft=>by rw [aQ i xs[i] ft (f8 _)];simp⟩
theorem Eb {α:Type} (q:α→Bool) (xs:List α) (aQ:∀ (i:Nat) y,xs[i]? = some y→q y=false):xs.findIdx? q=none:=by
 rw [am6];intro x aa;obtain ⟨i,h⟩:=an6 aa;exact aQ i x h
theorem XO {α:Type} {f:FuncId} {fv bD:ag} {bh:α→ag} {xs:List α} {q:α→Bool}
  (al:∀ (T:Nat→a6) (cR:Nat→Bool),(∀ j x,xs[j]? = some x→(∀ i,i<j→cR i=false)→df d4 fv [bh x] (T j) (fun o K=>o = .ret (.bool (cR j))∧K=T (j+1)))→bs d4 f [bD,fv] (T 0)
   (fun o K=>(o = .ret (.int .i64 (-1))∧K=T xs.length∧∀ i,i<xs.length→cR i=false)∨∃ j,j<xs.length∧cR j=true∧(∀ i,i<j→cR i=false)∧o = .ret (.int .i64 (j:Int))∧K=T (j+1)))
  (h:∀ x∈xs,cY d4 fv [bh x] (.bool (q x))):aY d4 f [bD,fv] (.int .i64 (match xs.findIdx? q with|some i=>(i:Int)|none => -1)):=by
 have:=al (fun _=>[]) (fun j=>match xs[j]? with|some x=>q x|none=>false) (fun j x aa _=>by rw [aa];exact cY.Nt (h x (d8 aa)));refine bs.Nu (bs.mono this ?_);rintro o K (⟨rfl,rfl,U⟩|⟨j,U,ad,aj,rfl,rfl⟩)
 ·rw [Eb q xs (fun i y ar=>by have:=U i (sW ar);rw [ar] at this;exact this)]
  exact ⟨rfl,rfl⟩
 ·have aa:=f8 U
  rw [aa] at ad;rw [Ea q xs j _ aa ad (fun i y ft ar=>by have:=aj i ft;rw [ar] at this;exact this)];exact ⟨rfl,rfl⟩
theorem HZ {α:Type} {f:FuncId} {fv bD:ag} {bh:α→ag} {xs:List α} {q:α→Bool}
  (al:∀ (T:Nat→a6) (cR:Nat→Bool),(∀ j x,xs[j]? = some x→(∀ i,i<j→cR i=false)→df d4 fv [bh x] (T j) (fun o K=>o = .ret (.bool (cR j))∧K=T (j+1)))→bs d4 f [bD,fv] (T 0)
   (fun o K=>(o = .ret (.bool false)∧K=T xs.length∧∀ i,i<xs.length→cR i=false)∨∃ j,j<xs.length∧cR j=true∧(∀ i,i<j→cR i=false)∧o = .ret (.bool true)∧K=T (j+1)))
  (h:∀ x∈xs,cY d4 fv [bh x] (.bool (q x))):aY d4 f [bD,fv] (.bool (xs.any q)):=by
 have:=al (fun _=>[]) (fun j=>match xs[j]? with|some x=>q x|none=>false) (fun j x aa _=>by rw [aa];exact cY.Nt (h x (d8 aa)));refine bs.Nu (bs.mono this ?_);rintro o K (⟨rfl,rfl,U⟩|⟨j,U,ad,aj,rfl,rfl⟩)
 ·have:xs.any q=false:=by
   rw [List.any_eq_false];intro x aa;obtain ⟨i,aQ⟩:=an6 aa;have:=U i (sW aQ);rw [aQ] at this;simpa using this
  rw [this];exact ⟨rfl,rfl⟩
 ·have aa:=f8 U
  rw [aa] at ad;have:xs.any q=true:=ai6.2 ⟨_,an9 U,ad⟩;rw [this];exact ⟨rfl,rfl⟩
def XP (v:Int×Int):ag := .agg [.int .i64 v.1,.int .i64 v.2]
theorem Nv (fv:ag) (xs:List ae) (T:Nat→a6) (cR:Nat→Bool) (aE:xs.length<bK) (h:∀ j x,xs[j]? = some x→(∀ i,i<j→cR i=false)→df d4 fv [ae.bh x] (T j) (fun o K=>o = .ret (.bool (cR j))∧K=T (j+1))) :
  bs d4 261 [.aF 6 (xs.map ae.bh) .a7,fv] (T 0)
   (fun o K=>(o = .ret (.int .i64 (-1))∧K=T xs.length∧∀ i,i<xs.length→cR i=false)∨∃ j,j<xs.length∧cR j=true∧(∀ i,i<j→cR i=false)∧o = .ret (.int .i64 (j:Int))∧K=T (j+1)):=by
 have aq:=bx;refine bs.bj ah Tryz.func261 C C fun s I=>?_
 refine gp ?_;refine af.A9 I (σ:=Nat) (fun j=>[(0,.aF 6 (xs.map ae.bh) .a7),(1,fv),(7,.int .i64 xs.length),(8,.int .i64 (j:Int))]) T (fun j=>j≤xs.length∧∀ i,i<j→cR i=false) (fun j=>xs.length-j) 0 ⟨by omega,fun i aQ=>by omega⟩ (by repeat (first|exact trivial|refine ⟨⟨_,rfl,aH⟩,?_⟩|refine ⟨⟨_,rfl,aR.of_eq bc⟩,?_⟩)) (az.all _) ?_;rintro j ⟨aK,aG⟩ I;refine cl ?_;refine af.cond C (fun au=>?_) (fun aV=>?_)
 ·have au:j<xs.length:=by simpa using au
  obtain ⟨x,aa,bY⟩:=b' (f:=ae.bh) au;have aD:=h j x aa aG
  try rw [ae.bJ] at bY aD
  refine bd ?_;refine ab.e0 rfl rfl rfl rfl rfl rfl aD I (az.all _) ?_ (fun _ _ ⟨h,_⟩ _=>by cases h);rintro _ _ ⟨⟨⟩,rfl⟩ I;rw [d7] at I ⊢;cases nT:cR j with
  | true=>
   refine bd ?_;exact Fin.bz I C aH (az.all _) (.inr ⟨j,au,nT,aG,rfl,rfl⟩)
  | false=>
   refine bd ?_
   exact bA.mk (j+1) I ⟨au,fun i aQ=>by
    rcases am1.1 aQ with aQ|rfl
    ·exact aG i aQ
    ·exact nT⟩ ct (az.all _) mq
 ·have aV:j=xs.length:=by
   have:xs.length≤j:=by simpa using aV
   omega
  subst aV;refine fb ?_;exact Fin.bz I C aH (az.all _) (.inl ⟨rfl,rfl,aG⟩)
theorem H0 (fv:ag) (xs:List ae) (T:Nat→a6) (cR:Nat→Bool) (aE:xs.length<bK) (h:∀ j x,xs[j]? = some x→(∀ i,i<j→cR i=false)→df d4 fv [ae.bh x] (T j) (fun o K=>o = .ret (.bool (cR j))∧K=T (j+1))) :
  bs d4 199 [.aF 6 (xs.map ae.bh) .a7,fv] (T 0)
   (fun o K=>(o = .ret (.bool false)∧K=T xs.length∧∀ i,i<xs.length→cR i=false)∨∃ j,j<xs.length∧cR j=true∧(∀ i,i<j→cR i=false)∧o = .ret (.bool true)∧K=T (j+1)):=by
 refine bs.bj ah Tryz.func199 C C fun s I=>?_
 refine cX ?_;refine ab.bL rfl rfl rfl rfl rfl (Nv fv xs T cR aE h) I (az.all _) ?_ (fun _ _ h _=>by rcases h with ⟨h,_⟩|⟨_,_,_,_,h,_⟩<;>cases h);rintro _ _ (⟨⟨⟩,rfl,U⟩|⟨j,U,ad,aj,⟨⟩,rfl⟩) I
 all_goals rw [d7] at I ⊢
 ·refine eB ?_
  exact Fin.bz I C aH (az.all _) (.inl ⟨rfl,rfl,U⟩)
 ·refine eB ?_
  exact Fin.bz I C (by simp;exact aH) (az.all _) (.inr ⟨j,U,ad,aj,rfl,rfl⟩)
theorem XQ (fv:ag) (q:ae→Bool) (xs:List ae) (aE:xs.length<bK) (h:∀ x∈xs,cY d4 fv [ae.bh x] (.bool (q x))) :
  aY d4 199 [.aF 6 (xs.map ae.bh) .a7,fv] (.bool (xs.any q)):=
 HZ (fun T cR dR=>H0 fv xs T cR aE dR) h
theorem XR (fv:ag) (q:ae→Bool) (xs:List ae) (aE:xs.length<bK) (h:∀ x∈xs,cY d4 fv [ae.bh x] (.bool (q x))) :
  aY d4 261 [.aF 6 (xs.map ae.bh) .a7,fv] (.int .i64 (match xs.findIdx? q with|some i=>(i:Int)|none => -1)):=
 XO (fun T cR dR=>Nv fv xs T cR aE dR) h
theorem XS (fv:ag) (xs:List Int) (T:Nat→a6) (cR:Nat→Bool) (aE:xs.length<bK) (h:∀ j x,xs[j]? = some x→(∀ i,i<j→cR i=false)→df d4 fv [ba x] (T j) (fun o K=>o = .ret (.bool (cR j))∧K=T (j+1))) :
  bs d4 363 [.aF 1 (xs.map ba) .a7,fv] (T 0)
   (fun o K=>(o = .ret (.int .i64 (-1))∧K=T xs.length∧∀ i,i<xs.length→cR i=false)∨∃ j,j<xs.length∧cR j=true∧(∀ i,i<j→cR i=false)∧o = .ret (.int .i64 (j:Int))∧K=T (j+1)):=by
 have aq:=bx;refine bs.bj ah Tryz.func363 C C fun s I=>?_
 refine gp ?_;refine af.A9 I (σ:=Nat) (fun j=>[(0,.aF 1 (xs.map ba) .a7),(1,fv),(7,.int .i64 xs.length),(8,.int .i64 (j:Int))]) T (fun j=>j≤xs.length∧∀ i,i<j→cR i=false) (fun j=>xs.length-j) 0 ⟨by omega,fun i aQ=>by omega⟩ (by repeat (first|exact trivial|refine ⟨⟨_,rfl,aH⟩,?_⟩|refine ⟨⟨_,rfl,aR.of_eq bc⟩,?_⟩)) (az.all _) ?_;rintro j ⟨aK,aG⟩ I;refine cl ?_;refine af.cond C (fun au=>?_) (fun aV=>?_)
 ·have au:j<xs.length:=by simpa using au
  obtain ⟨x,aa,bY⟩:=b' (f:=ba) au;have aD:=h j x aa aG
  try rw [ba] at bY aD
  refine bd ?_;refine ab.e0 rfl rfl rfl rfl rfl rfl aD I (az.all _) ?_ (fun _ _ ⟨h,_⟩ _=>by cases h);rintro _ _ ⟨⟨⟩,rfl⟩ I;rw [d7] at I ⊢;cases nT:cR j with
  | true=>
   refine bd ?_;exact Fin.bz I C aH (az.all _) (.inr ⟨j,au,nT,aG,rfl,rfl⟩)
  | false=>
   refine bd ?_
   exact bA.mk (j+1) I ⟨au,fun i aQ=>by
    rcases am1.1 aQ with aQ|rfl
    ·exact aG i aQ
    ·exact nT⟩ ct (az.all _) mq
 ·have aV:j=xs.length:=by
   have:xs.length≤j:=by simpa using aV
   omega
  subst aV;refine fb ?_;exact Fin.bz I C aH (az.all _) (.inl ⟨rfl,rfl,aG⟩)
theorem XT (fv:ag) (xs:List Int) (T:Nat→a6) (cR:Nat→Bool) (aE:xs.length<bK) (h:∀ j x,xs[j]? = some x→(∀ i,i<j→cR i=false)→df d4 fv [ba x] (T j) (fun o K=>o = .ret (.bool (cR j))∧K=T (j+1))) :
  bs d4 333 [.aF 1 (xs.map ba) .a7,fv] (T 0)
   (fun o K=>(o = .ret (.bool false)∧K=T xs.length∧∀ i,i<xs.length→cR i=false)∨∃ j,j<xs.length∧cR j=true∧(∀ i,i<j→cR i=false)∧o = .ret (.bool true)∧K=T (j+1)):=by
 refine bs.bj ah Tryz.func333 C C fun s I=>?_
 refine cX ?_;refine ab.bL rfl rfl rfl rfl rfl (XS fv xs T cR aE h) I (az.all _) ?_ (fun _ _ h _=>by rcases h with ⟨h,_⟩|⟨_,_,_,_,h,_⟩<;>cases h);rintro _ _ (⟨⟨⟩,rfl,U⟩|⟨j,U,ad,aj,⟨⟩,rfl⟩) I
 all_goals rw [d7] at I ⊢
 ·refine eB ?_
  exact Fin.bz I C aH (az.all _) (.inl ⟨rfl,rfl,U⟩)
 ·refine eB ?_
  exact Fin.bz I C (by simp;exact aH) (az.all _) (.inr ⟨j,U,ad,aj,rfl,rfl⟩)
theorem Nw (fv:ag) (q:Int→Bool) (xs:List Int) (aE:xs.length<bK) (h:∀ x∈xs,cY d4 fv [ba x] (.bool (q x))) :
  aY d4 333 [.aF 1 (xs.map ba) .a7,fv] (.bool (xs.any q)):=
 HZ (fun T cR dR=>XT fv xs T cR aE dR) h
def p2 {α:Type} (e:α→α→Bool):List α→List α→Bool
 | [],[]=>true
 | x::r,y::t=>e x y&&p2 e r t
 | _,_=>false
theorem Nx {α:Type} (e:α→α→Bool):∀ (a b:List α),a.length≠b.length→p2 e a b=false
 | [],[],h=>absurd C h
 | [],_::_,_=>rfl
 | _::_,[],_=>rfl
 | x::r,y::t,h=>by rw [p2,Nx e r t fG,an3]
theorem Ny (fv:ag) (e:ae→ae→Bool) (a b:List ae) (aE:a.length<bK) (Bs:b.length<bK) (bf:∀ x∈a,∀ y∈b,cY d4 fv [ae.bh x,ae.bh y] (.bool (e x y))) :
  aY d4 44 [.aF 6 (a.map ae.bh) .a7,.aF 6 (b.map ae.bh) .a7,fv] (.bool (p2 e a b)):=by
 have aq:=bx;refine aY.bj ah Tryz.func44 C C fun s I=>?_
 refine cl ?_;refine af.cond C (fun h=>?_) (fun h=>?_)
 ·have cN:a.length≠b.length:=by simp at h;omega
  rw [Nx e a b cN];refine o3 ?_;exact b2 I
 ·have cV:a.length=b.length:=by simp at h;omega
  refine bd ?_;refine af.cc [0,1,2,15,16] C I (σ:=Nat) (fun j=>[(17,.int .i64 (j:Int))]) (fun _=>[]) (fun j=>j≤a.length∧p2 e a b=p2 e (a.drop j) (b.drop j)) (fun j=>a.length-j) 0 ⟨g9 _,rfl⟩ (cy C) a' ?_;rintro j ⟨aK,aG⟩ I;refine cl ?_;refine af.cond C (fun au=>?_) (fun aV=>?_);rotate_left;have aV:j=a.length:=by
   have:a.length≤j:=by simpa using aV
   omega
  ·rw [fe ak,fe ak] at aG
   rw [aG];refine fb ?_;exact b2 I
  have au:j<a.length:=by simpa using au
  obtain ⟨x,aa,bY⟩:=b' (f:=ae.bh) au;obtain ⟨y,ar,cf⟩:=b' (f:=ae.bh) (by omega:j<b.length);have aw:=bf x (d8 aa) y (d8 ar);rw [ae.bJ] at bY;rw [ae.bJ] at cf;rw [ae.bJ,ae.bJ] at aw;rw [drop_cons aa,drop_cons ar,p2] at aG;refine fc ?_;refine ab.c3 ah I C C C C C C C (fun gD I=>?_);refine My I ?_;intro I;refine ab.c3 ah I C C C C C C C (fun fp I=>?_);refine My I ?_;intro I;refine ab.o1 C C C C C C aw ?_;cases aD:e x y with
  | false=>
   rw [aG,aD,aa'];refine bd ?_;exact b2 I
  | true=>
   rw [aD,i8] at aG;refine bd ?_;refine bA.mk (j+1) I ⟨au,aG⟩ ct a' (by show a.length-(j+1)<a.length-j;omega)
theorem H2 {α:Type} (q:α→Bool) (l:List α):(!l.any fun x => !q x)=l.all q:=by
 induction l with
 | nil=>rfl
 | cons x r a8=>rw [ak',aq6,Bool.not_or,Bool.not_not,a8]
theorem XU (fv:ag) (q:Bool) (x:ae) (h:cY d4 fv [ae.bh x] (.bool q)):cY d4 (.func 341 [] [.bl [fv] 0]) [ae.bh x] (.bool (!q)):=by
 refine cY.ey (first:=[]) (cap:=[.bl [fv] 0]) ?_;refine aY.bj ah Tryz.func341 C C fun s I=>?_
 rw [ae.bJ] at h ⊢;refine cX ?_;refine ab.o1 C C C C C C h ?_;refine eB ?_;exact b2 I
theorem XV (f:FuncId) (lU jt:List ag) (q:ae→Bool) (xs:List ae) (aE:xs.length<bK) (h:∀ x∈xs,cY d4 (.func f lU jt) [ae.bh x] (.bool (q x))) :
  aY d4 298 [.aF 6 (xs.map ae.bh) .a7,.func f lU jt] (.bool (xs.all q)):=by
 rw [← H2];refine aY.bj ah Tryz.func298 C C fun s I=>?_
 have aw:=XQ (.func 341 [] [.bl [.func f lU jt] 0]) (fun x => !q x) xs aE (fun x aa=>XU (.func f lU jt) (q x) x (h x aa));refine cX ?_;refine ab.eT C C C C C aw ?_;refine eB ?_;exact b2 I
theorem aX.Bu {P:Program} {Γ:cz} {N:Nat} {env:Env} {s:ao} {o:Oper} (aP:bX P Γ) {t yt e:TypeId} {x:Operand} {it:bQ} {sz:Nat} {xs:List ag} {own:bM} (ai:o.op = .binOp .eql t x (.const (.slice none 0 0)) yt)
  (aN:Γ.get? t=some it) (bw:it.bN = .aF e) (aa:aL env x=some (.aF sz xs own)) {X:ag→ao→Prop} :
  aX P N o env s (fun r an=>an=s∧((r = .bool true∧xs=[])∨r = .bool false)) X:=by
 refine aX.jZ (by simp [Go.Proofs.YtimbpjfhekcofaaGreat.gS,ai]) fun ro B a w p aI=>?_
 obtain ⟨info,d,U,ad,aj,bk,bF,fx⟩:=aP.parts aN;have hu:=aI.aL aa;have aA:∃ e,d = .slice e:=by
  rw [bw] at aj;cases d<;>simp [ec] at aj<;>exact ⟨_,rfl⟩
 obtain ⟨e',rfl⟩:=aA;have cI:∀ q,(binOp .eql t (a.eval x) (.slice none 0 0)).run P w = .ok (.bool q) w→(∀ c,a.eval x ≠ .agg c)→(execOp a.eval o).run P w = .ok (.value (.bool q)) w:=by
  intro q bf aw;unfold execOp;rw [ai];refine gb ?_;show (do eqGuard .eql t x (.const (.slice none 0 0)) (a.eval x) (.slice none 0 0);binOp .eql t (a.eval x) (.slice none 0 0):Sem Value).run P w=_;rw [H1,tD w ⟨fun _=>⟨_,rfl⟩,aw⟩,i0,bf]
 generalize a.eval x=dy at hu cI;cases hu with
 | iA _ _ _=>exact ⟨_,_,s,p,.bool true,cI true (wO C C (fun d=>by simp [Op.equalIn,run_underlying ad])).1 bc,.refl w p,.refl s w p,aI.wf,⟨rfl,.inl ⟨rfl,rfl⟩⟩,.bool _⟩
 | jo a _ _ _=>exact ⟨_,_,s,p,.bool false,cI false (wO C C (fun d=>by simp [Op.equalIn,run_underlying ad])).1 bc,.refl w p,.refl s w p,aI.wf,⟨rfl,.inr C⟩,.bool _⟩
 | aF g off n cap _ vs _ _ av aE aw aC al hm ax cm ai=>exact ⟨_,_,s,p,.bool false,cI false (wO C C (fun d=>by simp [Op.equalIn,run_underlying ad])).1 bc,.refl w p,.refl s w p,aI.wf,⟨rfl,.inr C⟩,.bool _⟩
def qQ (x:ae×Bool):List ag:=x.1.cells++[.bool x.2]
def et (x:ae×Bool):ag := .agg (qQ x)
theorem XW (l:List Int):∀ y∈l.map ba,mf 1 y=true:=by
 intro y ar;obtain ⟨z,-,rfl⟩:=ae'.1 ar;first|rfl|(rw [ba];rfl)
theorem vB (l:List Int) (own:bM) (aE:l.length<bK):aY d4 75 [.aF 1 (l.map ba) own] (.aF 1 (l.map ba) .a7):=by
 have aq:=bx;refine aY.bj ah Tryz.func75 C C fun s I=>?_
 refine cX ?_;refine ab.op C C C (aX.Bu ah C C C C (X:=fun _ _=>False)) ?_ (fun _ _ h=>False.elim h);rintro r an ⟨rfl,⟨rfl,av⟩|rfl⟩
 ·refine bd ?_
  refine Fin.cZ I C ?_;rw [av];exact aR.empty
 ·refine bd ?_
  refine ab.y9 ah C C C C C C C dB C C C (.inl C) (.inr C) C (XW _) (by simp only [ai9,aj8,f6];show _*8≤_;omega) Bd (.inr C) ?_;refine eB ?_;exact b2 I
theorem XX (l:List (ae×Bool)):∀ y∈l.map et,mf 7 y=true:=by
 intro y ar;obtain ⟨z,-,rfl⟩:=ae'.1 ar;first|rfl|(rw [et];rfl)
theorem vC (xs:List ag) (own:bM):aY d4 295 [.aF 1 xs own] (.aF 1 xs .clip):=by
 refine aY.bj ah Tryz.func295 C C fun s I=>?_
 refine cX ?_;refine ab.slice ah 0 xs.length C C C C C C C C (.inr C) (.inl ⟨rfl,rfl⟩) (.inr ⟨_,_,rfl,rfl⟩) (.inr ⟨_,_,rfl,rfl,rfl⟩) ak (t7 _) ?_;rw [ag',aq9];refine eB ?_;exact b2 I
theorem XY (xs:List ag) (own:bM):aY d4 332 [.aF 1 xs own] (.aF 1 xs .clip):=by
 refine aY.bj ah Tryz.func332 C C fun s I=>?_
 refine cX ?_;refine ab.slice ah 0 xs.length C C C C C C C C (.inr C) (.inl ⟨rfl,rfl⟩) (.inr ⟨_,_,rfl,rfl⟩) (.inr ⟨_,_,rfl,rfl,rfl⟩) ak (t7 _) ?_;rw [ag',aq9];refine eB ?_;exact b2 I
theorem XZ (fv:ag) (q:Bool) (x:Int) (h:cY d4 fv [ba x] (.bool q)):cY d4 (.func 334 [] [.bl [fv] 0]) [ba x] (.bool (!q)):=by
 refine cY.ey (first:=[]) (cap:=[.bl [fv] 0]) ?_;refine aY.bj ah Tryz.func334 C C fun s I=>?_
 rw [ba] at h ⊢;refine cX ?_;refine ab.o1 C C C C C C h ?_;refine eB ?_;exact b2 I
theorem Nz (f:FuncId) (lU jt:List ag) (q:Int→Bool) (xs:List Int) (aE:xs.length<bK) (h:∀ x∈xs,cY d4 (.func f lU jt) [ba x] (.bool (q x))) :
  aY d4 292 [.aF 1 (xs.map ba) .a7,.func f lU jt] (.bool (xs.all q)):=by
 rw [← H2];refine aY.bj ah Tryz.func292 C C fun s I=>?_
 have aw:=Nw (.func 334 [] [.bl [.func f lU jt] 0]) (fun x => !q x) xs aE (fun x aa=>XZ (.func f lU jt) (q x) x (h x aa));refine cX ?_;refine ab.eT C C C C C aw ?_;refine eB ?_;exact b2 I
def aS (J:ao→Prop) (P:Program) (Γ:cz) (N:Nat) (l:List Oper) (i:Nat) (rest:List Oper) (Q:b8→Env→ao→Prop) (env:Env) (s:ao):Prop:=
 rC l.toArray=true→l.drop i=rest→J s→bH J P Γ N l.toArray Q (cA (2^i-1)) env s
theorem Ec (i:Nat):(2^i-1)|||2^i=2^(i+1)-1:=by
 apply au3;intro j;rw [aq8,am7,am7,ap9];by_cases h:i=j
 ·subst h;simp
 ·by_cases ad:j<i
  ·simp [ad];omega
  ·simp [ad,h];omega
theorem xF {α:Type} {l:List α} {i:Nat} {o:α} {rest:List α} (h:l.drop i=o::rest):l[i]? = some o∧l.drop (i+1)=rest:=by
 have U:l[i]? = some o:=by
  have:=ak5 (fun x=>x[0]?) h;simpa using this
 refine ⟨U,?_⟩;have:l.drop (i+1)=(l.drop i).drop 1:=by rw [List.drop_drop]
 rw [this,h];rfl
theorem H3 {l:List Oper} (dr:rC l.toArray=true) {i:Nat} {o:Oper} (ai:l[i]? = some o):hJ l.toArray (cA (2^i-1)) i:=by
 refine ⟨by simpa using (ac'.1 ai).1,?_,fun j aK=>?_⟩
 ·simp [cA,am7]
 ·have:=(G6 dr).back i j aK
  simp [cA,am7,this]
section
variable {J:ao→Prop} {P:Program} {Γ:cz} {N:Nat} {l:List Oper} {i:Nat} {rest:List Oper} {Q:b8→Env→ao→Prop} {env:Env} {s:ao} {o:Oper} {d:Nat}
theorem af.lO (aP:bX P Γ) (hm:P.follows .mixedOrders=true) {id:Nat} (dr:rC l.toArray=true) (h:aS (fun an=>an=s) P Γ N l 0 l Q env s):af P N (.region id l.toArray true) Q env s:=
 af.sK _ aP hm dr (h dr C C)
theorem af.tT (aP:bX P Γ) (hm:P.follows .mixedOrders=true) {id:Nat} (dr:rC l.toArray=true) (h:aS oi P Γ N l 0 l Q env s):af P N (.region id l.toArray true) Q env s:=
 af.sK _ aP hm dr (h dr C trivial)
theorem aS.nil (h:Q .normal env s):aS J P Γ N l i [] Q env s:=fun dr iU _=>by
 refine bH.fin (fun j aK=>?_) h;have:l.length≤i:=by simpa using iU
 have aK:j<l.length:=by simpa using aK
 simp [cA,am7];omega
theorem aS.still {v:ag} (aA:o.dst=some d) (a1:d<N) (aD:Still J P Γ N l.toArray o (cF l env o) v) (h:aS J P Γ N l (i+1) rest Q ((d,v)::env) s):aS J P Γ N l i (o::rest) Q env s:=fun dr iU cU=>by
 obtain ⟨ai,rQ⟩:=xF iU;refine bH.still cU i o d v (H3 dr ai) (by simpa using ai) aA a1 aD ?_;rw [rD,Ec];exact h dr rQ cU
theorem aS.step {v:ag} (aN:xd Γ N l.toArray (cF l env o) o=some (d,v)) (h:aS J P Γ N l (i+1) rest Q ((d,v)::env) s):aS J P Γ N l i (o::rest) Q env s:=by
 obtain ⟨U,ad,aj⟩:=DA (J:=J) (P:=P) aN;exact aS.still U ad aj h
def runK (Γ:cz) (N:Nat) (ops:Array Oper):List Oper→Nat→Env→List Oper×Nat×Env
  | [],i,env=>([],i,env)
  | o::l,i,env=>match xd Γ N ops (j3 env (looks ops o)) o with
    | some (d,v)=>runK Γ N ops l (i+1) ((d,v)::env)
    | none=>(o::l,i,env)
theorem aS.run {NA:List Oper} {C4:Nat} {e5:Env} (h:runK Γ N l.toArray rest i env=(NA,C4,e5)) (ax:aS J P Γ N l C4 NA Q e5 s):aS J P Γ N l i rest Q env s:=by
 induction rest generalizing i env with
 | nil=>simp only [runK,Prod.mk.injEq] at h;obtain ⟨rfl,rfl,rfl⟩:=h;exact ax
 | cons o r a8=>
  simp only [runK] at h;split at h
  ·rename_i d v aN
   exact aS.step aN (a8 h)
  ·simp only [Prod.mk.injEq] at h;obtain ⟨rfl,rfl,rfl⟩:=h;exact ax
theorem aS.pure {v:ag} (ay:dO l env o) (aA:o.dst=some d) (a1:af' d N=true) (aD:mi Γ o (cF l env o) v) (h:aS J P Γ N l (i+1) rest Q ((d,v)::env) s):aS J P Γ N l i (o::rest) Q env s:=
 aS.still aA DE (.inl ⟨ay,aD⟩) h
theorem aS.je {v:ag} (ay:dO l env o) (aA:o.dst=some d) (a1:af' d N=true) (aD:w1 Γ o (cF l env o)=some v) (h:aS J P Γ N l (i+1) rest Q ((d,v)::env) s):aS J P Γ N l i (o::rest) Q env s:=
 aS.pure ay aA a1 (.x aD) h
theorem aS.calm {v:ag} (ay:dO l env o) (aA:o.dst=some d) (a1:af' d N=true) (aD:∀ s,J s→aX P N o (cF l env o) s (fun x an=>x=v∧an=s) (fun _ _=>False)) (h:aS J P Γ N l (i+1) rest Q ((d,v)::env) s):aS J P Γ N l i (o::rest) Q env s:=
 aS.still aA DE (.inr (.inr ⟨ay,aD⟩)) h
theorem aS.idx {t e:TypeId} {x y:Operand} {it aJ:bQ} {sz:Nat} {xs:List ag} {own:bM} {k:IntKind} {n:Int} (j:Nat) {v:ag} {cs:List ag} (ay:dO l env o) (aA:o.dst=some d) (a1:af' d N=true) (cG:o.op = .indexAddr t x y) (aN:Γ.get? t=some it) (bw:it.bN = .aF e) (bP:Γ.get? e=some aJ)
  (aa:aL (cF l env o) x=some (.aF sz xs own)) (b6:sz=aJ.size) (ar:aL (cF l env o) y=some (.int k n)) (ft:n=(j:Int)) (aK:xs[j]? = some v) (aw:cellsOf v=some cs)
  (h:aS J P Γ N l (i+1) rest Q ((d,.bl cs 0)::env) s):aS J P Γ N l i (o::rest) Q env s:=
 aS.pure ay aA a1 (.idx j cG aN bw bP aa b6 ar ft aK aw) h
theorem aS.slice {t e:TypeId} {x:Operand} {eo aQ kQ:Option Operand} {it aJ:bQ} {sz:Nat} {xs:List ag} {own dZ:bM} (a b:Nat) (ay:dO l env o) (aA:o.dst=some d) (a1:af' d N=true)
  (cG:o.op = .slice t x eo aQ kQ)
  (aN:Γ.get? t=some it) (bw:it.bN = .aF e) (bP:Γ.get? e=some aJ) (aa:aL (cF l env o) x=some (.aF sz xs own)) (b6:xs=[]∨sz=aJ.size)
  (iD:(eo=none∧a=0)∨∃ y k,eo=some y∧aL (cF l env o) y=some (.int k (a:Int))) (tO:(aQ=none∧kQ=none∧b=xs.length)∨∃ y k,aQ=some y∧aL (cF l env o) y=some (.int k (b:Int)))
  (qA:(kQ=none∧dZ = .a7)∨(∃ y k,kQ=some y∧aL (cF l env o) y=some (.int k (b:Int))∧dZ = .clip)) (aE:a≤b) (c4:b≤xs.length)
  (h:aS J P Γ N l (i+1) rest Q ((d,.aF sz ((xs.take b).drop a) dZ)::env) s):aS J P Γ N l i (o::rest) Q env s:=
 aS.pure ay aA a1 (.slice a b cG aN bw bP aa b6 iD tO qA aE c4) h
theorem aS.eT {f:FuncId} {h1:Array Operand} {cP:Array TypeId} {xs:List ag} {v:ag} (ay:dO l env o) (aA:o.dst=some d) (a1:af' d N=true)
  (cG:o.op = .call { callee := .value (.func f),args:=h1,argTypes:=cP }) (bp:gu (cF l env o) h1.toList=some xs) (aw:aY P f xs v) (h:aS J P Γ N l (i+1) rest Q ((d,v)::env) s):aS J P Γ N l i (o::rest) Q env s:=
 aS.calm ay aA a1 (fun s _=>(aX.call cG (fv := .func f [] []) rfl bp (iN.ey (R:=fun o an=>o = .ret v∧an=s) (by simpa using aw s))).mono (fun x an h=>by cases h.1;exact ⟨rfl,h.2⟩) (fun x an h=>by cases h.1)) h
theorem aS.dY {L R:a6} (aP:bX P Γ) (I:Ok s L) {t T:TypeId} {x:Operand} {eu:bQ} {b off:Nat} {cs:List ag} {v:ag} (ay:dO l env o) (aA:o.dst=some d) (a1:af' d N=true)
  (cG:o.op = .load t x) (aN:Γ.get? t=some eu) (aa:aL (cF l env o) x=some (.ptr b off)) (al:bm L (.own b) (.box T cs) R) (aD:hB eu cs off=some v)
  (h:aS (fun an=>an=aT s L) P Γ N l (i+1) rest Q ((d,v)::env) (aT s L)):aS (fun an=>an=aT s L) P Γ N l i (o::rest) Q env (aT s L):=
 aS.calm ay aA a1 (fun _ e=>by subst e;exact aX.dY aP I cG aN aa al aD) h
theorem aS.split (t:Nat) {b:Bool} (aD:env.get? t=some (.bool b)) (dR:b=true→aS J P Γ N l i rest Q ((t,.bool true)::env) s) (j5:b=false→aS J P Γ N l i rest Q ((t,.bool false)::env) s):aS J P Γ N l i rest Q env s:=by
 have U:∀ u,Env.get? ((t,.bool b)::env) u=env.get? u:=fun u=>by
  rw [Env.get?];split
  ·rename_i hu;rw [← ai3 hu];exact aD.symm
  ·rfl
 intro dr iU cU;refine bH.congr _ U ?_;cases b with
 | true=>exact dR C dr iU cU
 | false=>exact j5 C dr iU cU
theorem aS.m3 {t:Nat} {b:Bool} (al:Mq l.toArray o=some t) (aD:env.get? t=some (.bool b)) (dR:b=true→aS J P Γ N l i (o::rest) Q ((t,.bool true)::env) s) (j5:b=false→aS J P Γ N l i (o::rest) Q ((t,.bool false)::env) s):aS J P Γ N l i (o::rest) Q env s:=
 aS.split t aD dR j5
theorem aS.same (b:Bool) (ay:guardOf l.toArray (cF l env o) o=some b) (h:aS J P Γ N l i (o::rest) Q env s):aS J P Γ N l i (o::rest) Q env s:=h
theorem NB {l:List Oper} (dr:rC l.toArray=true) {i:Nat} {o:Oper} (iU:l.drop i=[o]):∀ j,hJ l.toArray (cA (2^i-1)) j→j=i:=fun j aK=>by
 obtain ⟨ai,rQ⟩:=xF iU;have ad:l.length≤i+1:=by simpa using rQ
 have aj:j<l.length:=by simpa using aK.1
 have bk:=aK.2.1;simp [cA,am7] at bk;omega
theorem NC {l:List Oper} {i:Nat} {o:Oper} (iU:l.drop i=[o]):∀ j,j<l.toArray.size→dT (cA (2^i-1)) i j=true:=fun j aK=>by
 obtain ⟨ai,rQ⟩:=xF iU;have ad:l.length≤i+1:=by simpa using rQ
 have aj:j<l.length:=by simpa using aK
 rw [rD,Ec];simp [cA,am7];omega
theorem aS.last {K X:ag→ao→Prop} (ay:dO l env o) (aA:o.dst=some d) (a1:af' d N=true) (lV:m1 l.toArray i=true) (h:aX P N o (cF l env o) s K X)
  (ax:∀ x an,K x an→Q .normal ((d,x)::env) an) (aa:∀ x an,X x an→Q (.panic x) [] an):aS J P Γ N l i [o] Q env s:=fun dr iU _=>by
 obtain ⟨ai,rQ⟩:=xF iU;have lk:=H3 dr ai;have dc:=NB dr iU;refine bH.split (fun _=>K) (fun _=>X) ⟨i,lk.1,lk.2.1⟩ (fun j o' aK cW=>?_) (fun j o' xe cW x an bC=>by have:=dc j xe;subst this;exact .inr (DD lV)) (fun j o' db aK cW cH x an bC=>?_) (fun j o' aK cW cH x an bC=>?_) (fun j o' aK cW x an jq=>aa x an jq)
 ·have:=dc j aK;subst this
  have cW:l[j]? = some o':=by simpa using cW
  rw [ai] at cW;cases cW;exact ⟨ay,h,fun db cH=>by rw [aA] at cH;cases cH;simpa [Nat.blt_eq] using a1⟩
 ·have:=dc j aK;subst this
  have cW:l[j]? = some o':=by simpa using cW
  rw [ai] at cW;cases cW;rw [aA] at cH;cases cH;exact bH.fin (NC iU) (ax x an bC)
 ·have:=dc j aK;subst this
  have cW:l[j]? = some o':=by simpa using cW
  rw [ai] at cW;cases cW;rw [aA] at cH;cases cH
theorem aS.ND {K X:ag→ao→Prop} (ay:dO l env o) (aA:o.dst=none) (lV:m1 l.toArray i=true) (h:aX P N o (cF l env o) s K X)
  (ax:∀ x an,K x an→Q .normal env an) (aa:∀ x an,X x an→Q (.panic x) [] an):aS J P Γ N l i [o] Q env s:=fun dr iU _=>by
 obtain ⟨ai,rQ⟩:=xF iU;have lk:=H3 dr ai;have dc:=NB dr iU;refine bH.split (fun _=>K) (fun _=>X) ⟨i,lk.1,lk.2.1⟩ (fun j o' aK cW=>?_) (fun j o' xe cW x an bC=>by have:=dc j xe;subst this;exact .inr (DD lV)) (fun j o' db aK cW cH x an bC=>?_) (fun j o' aK cW cH x an bC=>?_) (fun j o' aK cW x an jq=>aa x an jq)
 ·have:=dc j aK;subst this
  have cW:l[j]? = some o':=by simpa using cW
  rw [ai] at cW;cases cW;exact ⟨ay,h,fun db cH=>by rw [aA] at cH;cases cH⟩
 ·have:=dc j aK;subst this
  have cW:l[j]? = some o':=by simpa using cW
  rw [ai] at cW;cases cW;rw [aA] at cH;cases cH
 ·have:=dc j aK;subst this
  have cW:l[j]? = some o':=by simpa using cW
  rw [ai] at cW;cases cW;exact bH.fin (NC iU) (ax x an bC)
theorem aS.cC {L R:a6} (aP:bX P Γ) (I:Ok s L) {t T:TypeId} {x y:Operand} {eu:bQ} {b off:Nat} {cs us:List ag} {v:ag} (ay:dO l env o) (aA:o.dst=none) (lV:m1 l.toArray i=true)
  (cG:o.op = .store t x y) (aN:Γ.get? t=some eu) (aa:aL (cF l env o) x=some (.ptr b off)) (ar:aL (cF l env o) y=some v)
  (aD:cellsOf v=some us) (hu:aj4 us.length eu.size=true) (U:us.all eZ=true) (al:bm L (.own b) (.box T cs) R) (er:Nat.ble (off+us.length) cs.length=true)
  (h:Ok s ((.own b,.box T (c5 off us cs))::R)→Q .normal env (aT s ((.own b,.box T (c5 off us cs))::R))):aS J P Γ N l i [o] Q env (aT s L):=
 aS.ND ay aA lV (aX.cC aP I cG aN aa ar aD hu U al er (X:=fun _ _=>False)) (fun x an ⟨U,ad⟩=>by subst U;exact h ad) (fun _ _ h=>h.elim)
theorem aS.bL {L R K:a6} {aik:eS→a6→Prop} {f:FuncId} {h1:Array Operand} {cP:Array TypeId} {xs:List ag} (ay:dO l env o) (aA:o.dst=some d) (a1:af' d N=true) (lV:m1 l.toArray i=true)
  (cG:o.op = .call { callee := .value (.func f),args:=h1,argTypes:=cP }) (bp:gu (cF l env o) h1.toList=some xs) (h:bs P f xs K aik) (I:Ok s L) (al:az L K R)
  (ax:∀ x aM,aik (.ret x) aM→Ok s (aM++R)→Q .normal ((d,x)::env) (aT s (aM++R))) (aa:∀ x aM,aik (.panic x) aM→Ok s (aM++R)→Q (.panic x) [] (aT s (aM++R))):aS J P Γ N l i [o] Q env (aT s L):=
 aS.last ay aA a1 lV (aX.bL cG bp h I al) (fun x an ⟨aM,U,ad,aj⟩=>by subst U;exact ax x aM aj ad) (fun x an ⟨aM,U,ad,aj⟩=>by subst U;exact aa x aM aj ad)
theorem aS.oz {K X:ag→ao→Prop} (ay:dO l env o) (aA:o.dst=some d) (a1:af' d N=true) (aC:fA l.toArray (2^i-1) (idxs 0 l)=[i]) (h:aX P N o (cF l env o) s K X) (aK:∀ x an,K x an→J an)
  (ax:∀ x an,K x an→aS J P Γ N l (i+1) rest Q ((d,x)::env) an) (aa:∀ x an,X x an→Q (.panic x) [] an):aS J P Γ N l i (o::rest) Q env s:=fun dr iU _=>by
 obtain ⟨ai,rQ⟩:=xF iU;refine bH.one aC (by simpa using ai) aA a1 ay h (fun x an bC => .inl (aK x an bC)) (fun x an bC=>?_) aa;rw [Ec];exact ax x an bC dr rQ (aK x an bC)
theorem aS.NF {K X:ag→ao→Prop} (ay:dO l env o) (aA:o.dst=none) (aC:fA l.toArray (2^i-1) (idxs 0 l)=[i]) (h:aX P N o (cF l env o) s K X) (aK:∀ x an,K x an→J an)
  (ax:∀ x an,K x an→aS J P Γ N l (i+1) rest Q env an) (aa:∀ x an,X x an→Q (.panic x) [] an):aS J P Γ N l i (o::rest) Q env s:=fun dr iU _=>by
 obtain ⟨ai,rQ⟩:=xF iU;refine bH.y3 aC (by simpa using ai) aA ay h (fun x an bC => .inl (aK x an bC)) (fun x an bC=>?_) aa;rw [Ec];exact ax x an bC dr rQ (aK x an bC)
theorem aS.Ed {L:a6} (aP:bX P Γ) (I:Ok s L) {t:TypeId} {eu:bQ} {z:ag} {cs:List ag} (ay:dO l env o) (aA:o.dst=some d) (a1:af' d N=true) (aC:fA l.toArray (2^i-1) (idxs 0 l)=[i])
  (cG:o.op = .alloc t) (aN:Γ.get? t=some eu) (bO:ij eu.zero=some z) (aw:cellsOf z=some cs)
  (h:∀ b,Ok s ((.own b,.box t cs)::L)→aS oi P Γ N l (i+1) rest Q ((d,.ptr b 0)::env) (aT s ((.own b,.box t cs)::L))):aS oi P Γ N l i (o::rest) Q env (aT s L):=
 aS.oz ay aA a1 aC (aX.c3 aP I cG aN bO aw (X:=fun _ _=>False)) (fun _ _ _=>trivial) (fun x an ⟨b,U,ad,aj⟩=>by subst U;subst ad;exact h b aj) (fun _ _ h=>h.elim)
theorem aS.storeT {L R:a6} (aP:bX P Γ) (I:Ok s L) {t T:TypeId} {x y:Operand} {eu:bQ} {b off:Nat} {cs us:List ag} {v:ag} (ay:dO l env o) (aA:o.dst=none) (aC:fA l.toArray (2^i-1) (idxs 0 l)=[i])
  (cG:o.op = .store t x y) (aN:Γ.get? t=some eu) (aa:aL (cF l env o) x=some (.ptr b off)) (ar:aL (cF l env o) y=some v)
  (aD:cellsOf v=some us) (hu:aj4 us.length eu.size=true) (U:us.all eZ=true) (al:bm L (.own b) (.box T cs) R) (er:Nat.ble (off+us.length) cs.length=true)
  (h:Ok s ((.own b,.box T (c5 off us cs))::R)→aS oi P Γ N l (i+1) rest Q env (aT s ((.own b,.box T (c5 off us cs))::R))):aS oi P Γ N l i (o::rest) Q env (aT s L):=
 aS.NF ay aA aC (aX.cC aP I cG aN aa ar aD hu U al er (X:=fun _ _=>False)) (fun _ _ _=>trivial) (fun x an ⟨U,ad⟩=>by subst U;exact h ad) (fun _ _ h=>h.elim)
theorem aS.loadT {L R:a6} (aP:bX P Γ) (I:Ok s L) {t T:TypeId} {x:Operand} {eu:bQ} {b off:Nat} {cs:List ag} {v:ag} (ay:dO l env o) (aA:o.dst=some d) (a1:af' d N=true) (aC:fA l.toArray (2^i-1) (idxs 0 l)=[i])
  (cG:o.op = .load t x) (aN:Γ.get? t=some eu) (aa:aL (cF l env o) x=some (.ptr b off)) (al:bm L (.own b) (.box T cs) R) (aD:hB eu cs off=some v)
  (h:aS oi P Γ N l (i+1) rest Q ((d,v)::env) (aT s L)):aS oi P Γ N l i (o::rest) Q env (aT s L):=
 aS.oz ay aA a1 aC (aX.dY aP I cG aN aa al aD (X:=fun _ _=>False)) (fun _ _ _=>trivial) (fun x an ⟨U,ad⟩=>by subst U;subst ad;exact h) (fun _ _ h=>h.elim)
theorem aS.H4 {L R K:a6} {aik:eS→a6→Prop} {f:FuncId} {h1:Array Operand} {cP:Array TypeId} {xs:List ag} (ay:dO l env o) (aA:o.dst=some d) (a1:af' d N=true) (aC:fA l.toArray (2^i-1) (idxs 0 l)=[i])
  (cG:o.op = .call { callee := .value (.func f),args:=h1,argTypes:=cP }) (bp:gu (cF l env o) h1.toList=some xs) (h:bs P f xs K aik) (I:Ok s L) (al:az L K R)
  (ax:∀ x aM,aik (.ret x) aM→Ok s (aM++R)→aS oi P Γ N l (i+1) rest Q ((d,x)::env) (aT s (aM++R))) (aa:∀ x aM,aik (.panic x) aM→Ok s (aM++R)→Q (.panic x) [] (aT s (aM++R))):aS oi P Γ N l i (o::rest) Q env (aT s L):=
 aS.oz ay aA a1 aC (aX.bL cG bp h I al) (fun _ _ _=>trivial) (fun x an ⟨aM,U,ad,aj⟩=>by subst U;exact ax x aM aj ad) (fun x an ⟨aM,U,ad,aj⟩=>by subst U;exact aa x aM aj ad)
end
theorem NG (f:ae):aY d4 343 [f.bh] (.bool f.c7):=by
 have aq:=bx;refine aY.bj ah Tryz.func343 C C fun s I=>?_
 rw [ae.bJ]
 repeat' (first|(with_reducible first|apply af.seq|apply cg|apply af.ret)|refine e7 C ?_|refine af.cv ?_|refine ab.nil ?_|refine cq C ?_|refine ab.skip C C C ?_|(fail_if_success refine ab.same true C ?_);(fail_if_success refine ab.same false C ?_);refine ab.m3 C C (fun h=>?_) (fun h=>?_))
 all_goals exact Fin.cZ I C (aR.of_eq (by first|(simp_all [ae.c7];done)|(simp_all [ae.c7]<;>omega)))
theorem X0 (op:Int):aY d4 342 [.int .i64 op] (.int .i64 (qM op)):=by
 have aq:=bx;refine aY.bj ah Tryz.func342 C C fun s I=>?_
 repeat' (first|(with_reducible first|apply af.seq|apply cg|apply jA|apply iP|apply mm|apply af.ret|apply af.skip|apply af.block)|refine e7 C ?_|refine af.cond C (fun h=>?_) (fun h=>?_))
 all_goals exact Fin.cZ I C (aR.of_eq (by first|(simp_all [qM];done)|(simp_all [qM]<;>omega)))
theorem NH (f g:ae) (aZ:f.path.length<bK) (ay:g.path.length<bK):aY d4 201 [f.bh,g.bh] (.bool (decide (f.op=g.op)&&(decide (f.arg=g.arg)&&(decide (f.cls=g.cls)&&(decide (f.n=g.n)&&f.path==g.path))))):=by
 have aq:=bx;refine aY.bj ah Tryz.func201 C C fun s I=>?_
 rw [ae.bJ,ae.bJ];have U:=D4 f.path g.path aZ ay;unfold br ba at U
 repeat' (first|(with_reducible first|apply af.seq|apply cg|apply af.ret)|refine e7 C ?_|refine af.cv ?_|refine ab.nil ?_|refine cq C ?_|refine ab.skip C C C ?_|refine ab.eT C C C C C cD ?_|(fail_if_success refine ab.same true C ?_);(fail_if_success refine ab.same false C ?_);refine ab.m3 C C (fun h=>?_) (fun h=>?_))
 all_goals exact Fin.cZ I C (aR.of_eq xl)
theorem X1 {m c n:Nat} (h:m<n):m >>> c<n:=by
 rw [au2];exact as5 (Nat.div_le_self _ _) h
theorem NI (m c:Nat):decide ((((m >>> c) &&& 1:Nat):Int)=1)=m.testBit c:=by
 rw [Nat.testBit,aI2];have h:1 &&& (m >>> c)=(m >>> c) % 2:=by rw [aI2];exact Nat.and_one_is_mod _
 rw [h];rcases Nat.mod_two_eq_zero_or_one (m >>> c) with e|e<;>rw [e]<;>rfl
theorem NJ {c:Nat} (h:c<64):2^c<2^64:=ao0 ak h
theorem Bv (m c:Nat) (hm:m<2^64) (aw:c<64):aY d4 234 [.int .u64 (m:Int),.int .i64 (c:Int)] (.bool (m.testBit c)):=by
 have aq:=bx;refine aY.bj ah Tryz.func234 C C fun s I=>?_
 refine cX ?_;refine ab.shr ((m >>> c:Nat):Int) C C C C C C ak (Bj aw) ?_;refine ab.bits (((m >>> c) &&& 1:Nat):Int) C C C C C C (DW (X1 hm) dh) ?_;refine eB ?_;refine Fin.cZ I C (aR.of_eq ?_);rw [← NI];rfl
theorem Bw (m c:Nat) (hm:m<2^64) (aw:c<64):aY d4 291 [.int .u64 (m:Int),.int .i64 (c:Int)] (.int .u64 ((m|||2^c:Nat):Int)):=by
 have aq:=bx;refine aY.bj ah Tryz.func291 C C fun s I=>?_
 refine cX ?_;refine ab.shl ((2^c:Nat):Int) C C C C C C ak (MO aw) ?_;refine ab.bits ((m|||2^c:Nat):Int) C C C C C C (Bi hm (NJ aw)) ?_;refine eB ?_;exact b2 I
def rR (w:bo) (up:List Nat):List ag:=fL w++up.map fun n => .int .u64 (n:Int)
def gf (w:bo) (up:List Nat):ag := .bl (rR w up) 0
theorem X2 (w:bo) (up:List Nat) (c:Int) (hw:w.ps.length≤60):aY d4 293 [gf w up,.int .i64 c] (.bool (decide (c≥3)&&decide (c<3+(w.ps.length:Int)))):=by
 have aq:=bx;refine aY.bj ah Tryz.func293 C C fun s I=>?_
 unfold gf rR fL fk br;have dq:ai' .i64 (3+((w.ps.map br).length:Int))=3+(w.ps.length:Int):=by rw [f6,hf ak ak]
 unfold br at dq
 repeat' (first|(with_reducible first|apply af.seq|apply cg|apply af.ret)|refine e7 C ?_|refine af.cv ?_|refine ab.nil ?_|refine cq C ?_|refine ab.skip C C C ?_|(fail_if_success refine ab.same true C ?_);(fail_if_success refine ab.same false C ?_);refine ab.m3 C C (fun h=>?_) (fun h=>?_))
 all_goals exact Fin.cZ I C (aR.of_eq xl)
theorem H5 (w:bo) (up:List Nat) (c:Int) (hw:w.ps.length≤60):aY d4 233 [gf w up,.int .i64 c] (.bool (decide (c≥0)&&decide (c<3+(w.ps.length:Int)))):=by
 have aq:=bx;refine aY.bj ah Tryz.func233 C C fun s I=>?_
 unfold gf rR fL fk br;have dq:ai' .i64 (3+((w.ps.map br).length:Int))=3+(w.ps.length:Int):=by rw [f6,hf ak ak]
 unfold br at dq
 repeat' (first|(with_reducible first|apply af.seq|apply cg|apply af.ret)|refine e7 C ?_|refine af.cv ?_|refine ab.nil ?_|refine cq C ?_|refine ab.skip C C C ?_|(fail_if_success refine ab.same true C ?_);(fail_if_success refine ab.same false C ?_);refine ab.m3 C C (fun h=>?_) (fun h=>?_))
 all_goals exact Fin.cZ I C (aR.of_eq xl)
theorem X3 (w:bo) (up:List Nat) (c:Int):aY d4 379 [gf w up,.int .i64 c] (.bool (decide (c≥0)&&decide (c<(w.owner.length:Int)))):=by
 have aq:=bx;refine aY.bj ah Tryz.func379 C C fun s I=>?_
 unfold gf rR fL fk br
 repeat' (first|(with_reducible first|apply af.seq|apply cg|apply af.ret)|refine e7 C ?_|refine af.cv ?_|refine ab.nil ?_|refine cq C ?_|refine ab.skip C C C ?_|(fail_if_success refine ab.same true C ?_);(fail_if_success refine ab.same false C ?_);refine ab.m3 C C (fun h=>?_) (fun h=>?_))
 all_goals exact Fin.cZ I C (aR.of_eq xl)
theorem X4 (w:bo) (up:List Nat) (c:Int):cY d4 (.func 379 [gf w up] []) [ba c] (.bool (decide (c≥0)&&decide (c<(w.owner.length:Int)))):=
 cY.ey (first:=[gf w up]) (cap:=[]) (X3 w up c)
theorem X5 (w:bo) (up:List Nat) (c:Int) (hw:w.ps.length≤60):cY d4 (.func 293 [gf w up] []) [ba c] (.bool (decide (c≥3)&&decide (c<3+(w.ps.length:Int)))):=
 cY.ey (first:=[gf w up]) (cap:=[]) (X2 w up c hw)
theorem X6 (w:bo) (up:List Nat) (l:List Int) (aE:l.length<bK):aY d4 344 [gf w up,br l] (.bool (decide (l.length≤2)&&l.all fun c=>decide (c≥0)&&decide (c<(w.owner.length:Int)))):=by
 have aq:=bx;refine aY.bj ah Tryz.func344 C C fun s I=>?_
 have U:=Nz 379 [gf w up] [] _ l aE (fun x _=>X4 w up x);unfold br;unfold gf at U ⊢
 repeat' (first|(with_reducible first|apply af.seq|apply cg|apply af.ret)|refine e7 C ?_|refine af.cv ?_|refine ab.nil ?_|refine cq C ?_|refine ab.skip C C C ?_|refine ab.eT C C C C C cD ?_|(fail_if_success refine ab.same true C ?_);(fail_if_success refine ab.same false C ?_);refine ab.m3 C C (fun h=>?_) (fun h=>?_))
 all_goals exact Fin.cZ I C (aR.of_eq xl)
theorem X7 (b:Bool):aY d4 331 [.bool b] (.int .i64 (if b then 0 else 2)):=by
 have aq:=bx;refine aY.bj ah Tryz.func331 C C fun s I=>?_
 repeat' (first|(with_reducible first|apply af.seq|apply cg|apply jA|apply af.ret|apply af.skip)|refine e7 C ?_|refine af.cond C (fun h=>?_) (fun h=>?_))
 all_goals exact Fin.cZ I C (aR.of_eq xl)
def Ee (i:bQ):Bool:=match i.bN with
 | .struct _=>false
 | .arr _ _=>false
 | .other=>false
 | _=>true
theorem X8 {cs:List ag} {off:Nat} {v:ag} (h:cs[off]? = some v):rm off cs=some (v::cs.drop (off+1)):=by
 induction off generalizing cs with
 | zero=>
  cases cs with
  | nil=>cases h
  | cons x r=>simp at h;subst h;rfl
 | succ n a8=>
  cases cs with
  | nil=>cases h
  | cons x r=>
   have:=a8 (cs:=r) fG;simp only [rm,List.drop_succ_cons];exact this
theorem H6 {i:bQ} {cs:List ag} {off:Nat} {v:ag} (U:Ee i=true) (h:cs[off]? = some v):hB i cs off=some v:=by
 unfold hB Ee at *;rw [X8 h];simp only;split at U<;>simp_all
section
variable {J:ao→Prop} {P:Program} {Γ:cz} {N:Nat} {ops:Array Oper} {l:List Oper} {i:Nat} {rest:List Oper} {Q:b8→Env→ao→Prop} {env:Env} {s:ao} {o:Oper} {d:Nat}
theorem aX.zl (aP:bX P Γ) {t:TypeId} {x:Operand} {eu:bQ} {off:Nat} {cs:List ag} {v:ag} (cG:o.op = .load t x) (aN:Γ.get? t=some eu) (aa:aL env x=some (.bl cs off)) (aD:hB eu cs off=some v) :
  aX P N o env s (fun x an=>x=v∧an=s) (fun _ _=>False):=
 aX.mR (by simp [gS,cG]) fun ro B a w p aI=>LG aP aI cG aN aa aD
theorem ab.Bx (aP:bX P Γ) {t:TypeId} {x:Operand} {eu:bQ} {off:Nat} {cs:List ag} {v:ag} (ay:guardOf ops env o=some true) (aA:o.dst=some d) (a1:af' d N=true) (cG:o.op = .load t x) (aN:Γ.get? t=some eu) (aa:aL env x=some (.bl cs off)) (U:Ee eu=true) (aD:cs[off]? = some v)
  (h:ab P N ops rest Q ((d,v)::env) s):ab P N ops (o::rest) Q env s:=
 ab.op ay aA a1 (aX.zl aP cG aN aa (H6 U aD)) (fun x an ⟨U,ad⟩=>by subst U;subst ad;exact h) (fun _ _ h=>h.elim)
theorem ab.zm {L R:a6} (aP:bX P Γ) (I:Ok s L) {t T:TypeId} {x:Operand} {eu:bQ} {b off:Nat} {cs:List ag} {v:ag} (ay:guardOf ops env o=some true) (aA:o.dst=some d) (a1:af' d N=true) (cG:o.op = .load t x) (aN:Γ.get? t=some eu) (aa:aL env x=some (.ptr b off)) (al:bm L (.own b) (.box T cs) R) (U:Ee eu=true) (aD:cs[off]? = some v)
  (h:ab P N ops rest Q ((d,v)::env) (aT s L)):ab P N ops (o::rest) Q env (aT s L):=
 ab.dY aP I ay aA a1 cG aN aa al (H6 U aD) h
theorem aS.arr (aP:bX P Γ) {t e:TypeId} {x y:Operand} {it aJ:bQ} {k:IntKind} {len b off:Nat} {z:Int} (j:Nat) (ay:dO l env o) (aA:o.dst=some d) (a1:af' d N=true) (ai:o.op = .indexAddr t x y) (aN:Γ.get? t=some it) (bw:it.bN = .arr len e) (bP:Γ.get? e=some aJ) (aa:aL (cF l env o) x=some (.ptr b off)) (ar:aL (cF l env o) y=some (.int k z)) (ft:z=(j:Int)) (aK:j<len)
  (h:aS J P Γ N l (i+1) rest Q ((d,.ptr b (off+j*aJ.size))::env) s):aS J P Γ N l i (o::rest) Q env s:=
 aS.calm ay aA a1 (fun s _=>aX.arr aP ai aN bw bP aa ar ft aK) h
theorem aS.lv {L R:a6} (aP:bX P Γ) (I:Ok s L) {t T:TypeId} {x y:Operand} {eu:bQ} {b off:Nat} {cs us:List ag} {v:ag} (cs':List ag) (ay:dO l env o) (aA:o.dst=none) (lV:m1 l.toArray i=true)
  (cG:o.op = .store t x y) (aN:Γ.get? t=some eu) (aa:aL (cF l env o) x=some (.ptr b off)) (ar:aL (cF l env o) y=some v)
  (aD:cellsOf v=some us) (hu:aj4 us.length eu.size=true) (U:us.all eZ=true) (al:bm L (.own b) (.box T cs) R) (er:off+us.length≤cs.length) (he:c5 off us cs=cs')
  (h:Ok s ((.own b,.box T cs')::R)→Q .normal env (aT s ((.own b,.box T cs')::R))):aS J P Γ N l i [o] Q env (aT s L):=by
 subst he;exact aS.cC aP I ay aA lV cG aN aa ar aD hu U al (by simpa [Nat.ble_eq] using er) h
theorem ab.lv {L R:a6} (aP:bX P Γ) (I:Ok s L) {t T:TypeId} {x y:Operand} {eu:bQ} {b off:Nat} {cs us:List ag} {v:ag} (cs':List ag) (ay:guardOf ops env o=some true) (aA:o.dst=none)
  (cG:o.op = .store t x y) (aN:Γ.get? t=some eu) (aa:aL env x=some (.ptr b off)) (ar:aL env y=some v)
  (aD:cellsOf v=some us) (hu:aj4 us.length eu.size=true) (U:us.all eZ=true) (al:bm L (.own b) (.box T cs) R) (er:off+us.length≤cs.length) (he:c5 off us cs=cs')
  (h:Ok s ((.own b,.box T cs')::R)→ab P N ops rest Q env (aT s ((.own b,.box T cs')::R))):ab P N ops (o::rest) Q env (aT s L):=by
 subst he;exact ab.cC aP I ay aA cG aN aa ar aD hu U al (by simpa [Nat.ble_eq] using er) h
theorem ue {off:Nat} {v:ag}:∀ {cs:List ag},c5 off [v] cs=cs.set off v:=by
  induction off with
  | zero=>intro cs;cases cs<;>rfl
  | succ n a8=>intro cs;cases cs with
    | nil=>rfl
    | cons x r=>exact ak5 (x :: ·) (a8 (cs:=r))
theorem ab.mo {f:FuncId} {h1:Array Operand} {cP:Array TypeId} {xs ys:List ag} {v:ag} (ay:guardOf ops env o=some true) (aA:o.dst=some d) (a1:af' d N=true)
  (cG:o.op = .call { callee := .value (.func f),args:=h1,argTypes:=cP }) (bp:gu env h1.toList=some xs) (h:aY P f ys v) (aE:b5 xs ys) (ax:ab P N ops rest Q ((d,v)::env) s):ab P N ops (o::rest) Q env s:=
 ab.eT ay aA a1 cG bp (aY.args aE h) ax
theorem aS.mo {f:FuncId} {h1:Array Operand} {cP:Array TypeId} {xs ys:List ag} {v:ag} (ay:dO l env o) (aA:o.dst=some d) (a1:af' d N=true)
  (cG:o.op = .call { callee := .value (.func f),args:=h1,argTypes:=cP }) (bp:gu (cF l env o) h1.toList=some xs) (aw:aY P f ys v) (aE:b5 xs ys) (h:aS J P Γ N l (i+1) rest Q ((d,v)::env) s):aS J P Γ N l i (o::rest) Q env s:=
 aS.eT ay aA a1 cG bp (aY.args aE aw) h
theorem af.m7 {L R:a6} (I:Ok s L) (b:Nat) {d':ds} (al:bm L (.own b) d' R) (aP:bX P Γ) (hm:P.follows .mixedOrders=true) {id:Nat} (dr:rC l.toArray=true) (h:aS (fun an=>an b=some d') P Γ N l 0 l Q env (aT s L)):af P N (.region id l.toArray true) Q env (aT s L):=
 af.sK _ aP hm dr (h dr C (al.get I))
theorem aS.qI (aP:bX P Γ) {t T:TypeId} {x:Operand} {eu:bQ} {b off:Nat} {cs:List ag} {v:ag} (ay:dO l env o) (aA:o.dst=some d) (a1:af' d N=true)
  (cG:o.op = .load t x) (aN:Γ.get? t=some eu) (aa:aL (cF l env o) x=some (.ptr b off)) (aD:hB eu cs off=some v)
  (h:aS (fun an=>an b=some (.box T cs)) P Γ N l (i+1) rest Q ((d,v)::env) s):aS (fun an=>an b=some (.box T cs)) P Γ N l i (o::rest) Q env s:=
 aS.calm ay aA a1 (fun s cU=>aX.u9 aP cG aN aa cU aD) h
theorem aS.zn {L R K:a6} {aik:eS→a6→Prop} {b:Nat} {d':ds} {g:Operand} {fv:ag} {h1:Array Operand} {cP:Array TypeId} {xs:List ag} (ay:dO l env o) (aA:o.dst=some d) (a1:af' d N=true) (aC:fA l.toArray (2^i-1) (idxs 0 l)=[i])
  (cG:o.op = .call { callee := .value g,args:=h1,argTypes:=cP }) (aD:aL (cF l env o) g=some fv) (bp:gu (cF l env o) h1.toList=some xs) (h:df P fv xs K aik) (I:Ok s L) (al:az L K R)
  (aK:∀ x aM,aik (.ret x) aM→∃ c',bm (aM++R) (.own b) d' c')
  (ax:∀ x aM,aik (.ret x) aM→Ok s (aM++R)→aS (fun an=>an b=some d') P Γ N l (i+1) rest Q ((d,x)::env) (aT s (aM++R))) (aa:∀ x aM,aik (.panic x) aM→Ok s (aM++R)→Q (.panic x) [] (aT s (aM++R))):aS (fun an=>an b=some d') P Γ N l i (o::rest) Q env (aT s L):=
 aS.oz ay aA a1 aC (aX.e0 cG aD bp h I al) (fun x an ⟨aM,U,ad,aj⟩=>by subst U;obtain ⟨c',gU⟩:=aK x aM aj;exact gU.get ad) (fun x an ⟨aM,U,ad,aj⟩=>by subst U;exact ax x aM aj ad) (fun x an ⟨aM,U,ad,aj⟩=>by subst U;exact aa x aM aj ad)
theorem aS.X9 {L R K:a6} {aik:eS→a6→Prop} {g:Operand} {fv:ag} {h1:Array Operand} {cP:Array TypeId} {xs:List ag} (ay:dO l env o) (aA:o.dst=some d) (a1:af' d N=true) (aC:fA l.toArray (2^i-1) (idxs 0 l)=[i])
  (cG:o.op = .call { callee := .value g,args:=h1,argTypes:=cP }) (aD:aL (cF l env o) g=some fv) (bp:gu (cF l env o) h1.toList=some xs) (h:df P fv xs K aik) (I:Ok s L) (al:az L K R)
  (ax:∀ x aM,aik (.ret x) aM→Ok s (aM++R)→aS oi P Γ N l (i+1) rest Q ((d,x)::env) (aT s (aM++R))) (aa:∀ x aM,aik (.panic x) aM→Ok s (aM++R)→Q (.panic x) [] (aT s (aM++R))):aS oi P Γ N l i (o::rest) Q env (aT s L):=
 aS.oz ay aA a1 aC (aX.e0 cG aD bp h I al) (fun _ _ _=>trivial) (fun x an ⟨aM,U,ad,aj⟩=>by subst U;exact ax x aM aj ad) (fun x an ⟨aM,U,ad,aj⟩=>by subst U;exact aa x aM aj ad)
end
theorem H7 {w:bo} {up:List Nat} {c m:Nat} (h:up[c]? = some m):(rR w up)[2+c]? = some (.int .u64 (m:Int)):=by
 unfold rR fL;rw [ak0 bc];simp [h]
theorem H8 (c:Nat) (aw:c<64):aY d4 291 [.int .u64 1,.int .i64 (c:Int)] (.int .u64 ((1|||2^c:Nat):Int)):=Bw 1 c dh aw
def oA (w:bo) (u:List Nat):List ag:=rR w (pad u)
theorem NK {w:bo} {u:List Nat} (h:u.length<63) (v:Nat):c5 (2+u.length*1) [.int .u64 (v:Int)] (oA w u)=oA w (u++[v]):=by
 rw [ue];unfold oA rR;rw [ap0 _ _ (by simp [fL]),← Xr h v,List.map_set];congr 2;simp [fL]
theorem NL {w:bo} {u:List Nat} (h:u.length≤63):(oA w u).length=65:=by
 unfold oA rR;rw [f0,f6,Xq h];rfl
theorem X' {w:bo} {u:List Nat} {c m:Nat} (h:u[c]? = some m):(oA w u)[2+c*1]? = some (.int .u64 (m:Int)):=by
 rw [am8];exact H7 (HL h)
theorem Ya (j:Nat) (aK:j<3):[1,3,5].take (j+1)=[1,3,5].take j++[1|||2^j]:=by
 rcases j with _|_|_|j
 ·rfl
 ·rfl
 ·rfl
 ·omega
theorem NM (w:bo) (hw:fJ w):aY d4 232 [jD w] (.bW [gf w (pad (fK w.ps)),.bool true]):=by
 have aq:=bx;have Yb:=hw.few;have gq:=hw.bB;refine aY.bj ah Tryz.func232 C C fun s I=>?_
 unfold jD fL fk br;refine cX ?_;refine ab.eP 15 C ez ?_;refine jQ ?_;refine af.cond C (fun h=>?_) (fun _=>?_)
 ·simp at h;omega
 refine af.skip ?_
 repeat (first|(refine Hp ?_)|refine ab.h0 I C C C C C C (fun b I=>?_)|(refine Hq ?_))
 refine af.cc [1,4] C I (σ:=Nat) (fun j=>[(24,.int .i64 (j:Int))]) (fun j=>[(.own b,.box 310 (oA w ([1,3,5].take j)))]) (fun j=>j≤3) (fun j=>3-j) 0 (g9 _) (cy C) a' ?_;rintro j aK I;refine cl ?_;refine af.cond C (fun au=>?_) (fun aV=>?_)
 ·have au:j<3:=by have:=ao4 au;omega
  have U:=H8 j ak;have e:c5 (2+j*1) [.int .u64 ((1|||2^j:Nat):Int)] (oA w ([1,3,5].take j))=oA w ([1,3,5].take (j+1)):=by
   have aE:([1,3,5].take j).length=j:=by simp;omega
   have:=NK (w:=w) (u:=[1,3,5].take j) ak (1|||2^j);rw [aE] at this;rw [this,Ya j au]
  have hlen:(oA w ([1,3,5].take j)).length=65:=NL ez;refine c1 ?_;refine aS.arr ah j C C C C C C C C C C ak ?_;refine aS.lv ah I _ C C C C C C C C C C aO (by rw [hlen];show 2+j*1+1≤65;omega) e (fun I=>?_);refine eF ?_;exact bA.mk (j+1) I au ct a' (by show 3-(j+1)<3-j;omega)
 have aV:j=3:=by have:=of_decide_eq_false aV;omega
 subst aV;refine bd ?_;refine af.cc [1,4,36,37] C I (σ:=Nat) (fun j=>[(38,.int .i64 (j:Int))]) (fun j=>[(.own b,.box 310 (oA w (fK (w.ps.take j))))]) (fun j=>j≤w.ps.length) (fun j=>w.ps.length-j) 0 (g9 _) (cy C) a' ?_;rintro j aK I;refine cl ?_;refine af.cond C (fun au=>?_) (fun aV=>?_);rotate_left
 ·have aV:j=w.ps.length:=by simp at aV;omega
  subst aV;rw [ag'] at I ⊢;have oB:w.owner.all (fun c=>decide (c≥3)&&decide (c<3+(w.ps.length:Int)))=true:=by
   rw [ai4];intro o ai;have:=hw.own o ai;simp;omega
  have pa:=Nz 293 [gf w (pad (fK w.ps))] [] _ w.owner ak (fun x _=>X5 w (pad (fK w.ps)) x Yb);rw [oB] at pa;refine af.im I 4 b C aO (fun I=>?_);unfold gf at pa ⊢;refine dS ?_;exact b2 I
 have au:j<w.ps.length:=by simpa using au
 obtain ⟨l,ar,cf⟩:=b' (f:=br) au;have p1:=DX hw.h2 ar;have U:=H8 (3+j) ak;have lJ:(fK (w.ps.take j)).length=3+j:=by rw [xy,ah'];omega
 have H9:∀ m∈fK (w.ps.take j),m<2^64:=HK wE;have jf:ai' .i64 (3+(j:Int))=((3+j:Nat):Int):=by rw [hf ak ak];omega
 have lx:l.length<100:=by have:=hw.short l (d8 ar);omega
 generalize e8:fK (w.ps.take j)=aia at I lJ H9;unfold br at cf;have U:aY d4 291 [.int .u64 1,.int .i64 (ai' .i64 (3+(j:Int)))] (.int .u64 ((1|||2^(3+j):Nat):Int)):=by rw [jf];exact U
 refine c1 ?_;refine af.cc [1,4,36,37,38,6,7,46,47] C I (σ:=Nat) (fun k=>[(48,.int .i64 (k:Int)),(8,.int .u64 (((l.take k).foldl (fun s p=>s|||aia.getD p.toNat 0) (1|||2^(3+j)):Nat):Int))]) (fun k=>[(.own b,.box 310 (oA w aia))]) (fun k=>k≤l.length) (fun k=>l.length-k) 0 (g9 _) (cy C) a' ?_;rintro k ax I;refine cl ?_;refine af.cond C (fun dA=>?_) (fun fE=>?_);rotate_left
 ·have fE:k=l.length:=by simp at fE;omega
  subst fE;rw [ag'] at ⊢;have e:c5 (2+(3+j)*1) [.int .u64 ((sT aia l:Nat):Int)] (oA w aia)=oA w (fK (w.ps.take (j+1))):=by
   rw [fD ar,MV,e8,← lJ];exact NK ak _
  have hlen:(oA w aia).length=65:=NL ak;unfold sT at e;rw [lJ] at e;refine bd ?_;refine ab.arr ah (3+j) C C C C C C C C C jf ak ?_;refine ab.lv ah I _ C C C C C C C C C aO (by rw [hlen];show 2+(3+j)*1+1≤65;omega) e (fun I=>?_);refine eF ?_;exact bA.mk (j+1) I au ct a' (by show w.ps.length-(j+1)<w.ps.length-j;omega)
 have dA:k<l.length:=by simpa using dA
 obtain ⟨p,aw,o9⟩:=b' (f:=ba) dA;obtain ⟨g1,g2,g3⟩:=DY p1 aw;obtain ⟨q,rfl⟩:∃ q:Nat,p=q:=⟨p.toNat,by omega⟩;have k0:=xD (l.take k) q (by have:=au5 k l;omega);have vD:(l.take k).contains (q:Int)=false:=by simpa using g3
 rw [vD] at k0;unfold br at k0;rw [at2] at k0;unfold ba at o9 k0;obtain ⟨m,hm⟩:∃ m,aia[q]? = some m:=⟨aia[q]' ak,f8 _⟩;refine fc ?_;refine ab.eP 55 C (M2 ak) ?_;refine fB ?_;refine ab.eP 61 C (by rw [jf];exact M2 ak) ?_;refine fB ?_;refine ab.slice ah 0 k C C C C C C C C (.inr C) (.inl ⟨rfl,rfl⟩) (.inr ⟨_,_,rfl,rfl⟩) (.inl ⟨rfl,rfl⟩) (g9 _) (by simpa using ax) ?_;rw [aq9];refine dS ?_;refine ab.arr ah q C C C C C C C C C C ak ?_;refine ab.zm ah I C C C C C C aO C (X' hm) ?_;refine ab.bits (((l.take k).foldl (fun s p=>s|||aia.getD p.toNat 0) (1|||2^(3+j))|||m:Nat):Int) C C C C C C (Bi (HJ H9 _ _ (HI dh (ao0 ak ak))) (H9 m (d8 hm))) ?_;refine iQ ?_;refine bA.mk (k+1) I dA (by repeat (first|exact trivial|refine ⟨⟨_,rfl,aH⟩,?_⟩|refine ⟨⟨_,rfl,aR.of_eq (by (first|rw [lo ak]|(rw [fD aw,aq'];simp [hm])))⟩,?_⟩)) a' (by show l.length-(k+1)<l.length-k;omega)
theorem Yc (fv:ag) (K aM:a6) (q:Bool) (x:ae) (h:df d4 fv [x.bh] K (fun o K=>o = .ret (.bool q)∧K=aM)):df d4 (.func 341 [] [.bl [fv] 0]) [x.bh] K (fun o K=>o = .ret (.bool (!q))∧K=aM):=by
 refine df.ey (first:=[]) (cap:=[.bl [fv] 0]) ?_;refine bs.bj ah Tryz.func341 C C fun s I=>?_
 rw [ae.bJ] at h ⊢;refine cX ?_;refine ab.e0 rfl rfl rfl rfl rfl rfl h I (az.all _) ?_ (fun _ _ ⟨h,_⟩ _=>by cases h);rintro _ _ ⟨⟨⟩,rfl⟩ I;rw [d7] at I ⊢;refine eB ?_;exact Fin.bz I C aH (az.all _) ⟨rfl,rfl⟩
theorem Yd (f:FuncId) (lU jt:List ag) (xs:List ae) (T:Nat→a6) (cR:Nat→Bool) (aE:xs.length<bK) (h:∀ j x,xs[j]? = some x→(∀ i,i<j→cR i=true)→df d4 (.func f lU jt) [x.bh] (T j) (fun o K=>o = .ret (.bool (cR j))∧K=T (j+1))) :
  bs d4 298 [.aF 6 (xs.map ae.bh) .a7,.func f lU jt] (T 0)
   (fun o K=>(o = .ret (.bool true)∧K=T xs.length∧∀ i,i<xs.length→cR i=true)∨∃ j,j<xs.length∧cR j=false∧(∀ i,i<j→cR i=true)∧o = .ret (.bool false)∧K=T (j+1)):=by
 refine bs.bj ah Tryz.func298 C C fun s I=>?_
 have aw:=H0 (.func 341 [] [.bl [.func f lU jt] 0]) xs T (fun j => !cR j) aE (fun j x aa aQ=>Yc (.func f lU jt) (T j) (T (j+1)) (cR j) x (h j x aa (fun i ft=>by simpa using aQ i ft)));refine cX ?_;refine ab.bL rfl rfl rfl rfl rfl aw I (az.all _) ?_ (fun _ _ h _=>by rcases h with ⟨h,_⟩|⟨_,_,_,_,h,_⟩<;>cases h);rintro _ _ (⟨⟨⟩,rfl,U⟩|⟨j,U,ad,aj,⟨⟩,rfl⟩) I
 all_goals rw [d7] at I ⊢
 ·refine eB ?_
  exact Fin.bz I C aH (az.all _) (.inl ⟨rfl,rfl,fun i aQ=>by simpa using U i aQ⟩)
 ·refine eB ?_
  exact Fin.bz I C aH (az.all _) (.inr ⟨j,U,by simpa using ad,fun i aQ=>by simpa using aj i aQ,rfl,rfl⟩)
def mu (dI:Nat) (k:Int):a6:=[(.own dI,.box 3 [.int .i64 k])]
theorem Ye (w:bo) (d:Nat) (k:Int) (f:ae):eU w d k f=if decide (k-1<0)||decide (d=0) then (false,k-1) else if fr w f then gH w (d-1) (k-1) f.kids else (false,k-1):=by
 cases f;rw [eU];rfl
def ly (w:bo) (d:Nat) (k:Int) (ks:List ae):Nat→Int
  | 0=>k
  | j+1=>match ks[j]? with
    | some x=>(eU w d (ly w d k ks j) x).2
    | none=>ly w d k ks j
theorem xG (w:bo) (d:Nat) (k:Int) (x:ae) (r:List ae):∀ j,ly w d k (x::r) (j+1)=ly w d (eU w d k x).2 r j
  | 0=>by simp [ly]
  | j+1=>by
    rw [ly,xG w d k x r j,List.getElem?_cons_succ];rfl
theorem NN (w:bo) (d:Nat):∀ (ks:List ae) (k:Int),
    (∀ j x,ks[j]? = some x→(eU w d (ly w d k ks j) x).1=true)→gH w d k ks=(true,ly w d k ks ks.length)
  | [],_,_=>by rw [gH];rfl
  | x::r,k,h=>by
    have bn:(eU w d k x).1=true:=h 0 x C;rw [gH,f7 bn,NN w d r _ (fun j y aK=>by rw [← xG];exact h (j+1) y (by simpa using aK)),i9,xG]
theorem NO (w:bo) (d:Nat):∀ (ks:List ae) (k:Int) (j:Nat) (x:ae),ks[j]? = some x→(∀ (i:Nat) y,i<j→ks[i]? = some y→(eU w d (ly w d k ks i) y).1=true)→(eU w d (ly w d k ks j) x).1=false →
    gH w d k ks=(false,ly w d k ks (j+1))
  | [],_,_,_,h,_,_=>by simp at h
  | y::r,k,0,x,h,_,aa=>by
    obtain rfl:y=x:=by simpa using h
    have bY:(eU w d k y).1=false:=aa;rw [gH,f4 (by rw [bY];simp),xG];rfl
  | y::r,k,j+1,x,h,aQ,aa=>by
    have bn:(eU w d k y).1=true:=aQ 0 y (Nat.succ_pos _) C;rw [gH,f7 bn,xG];rw [xG] at aa;exact NO w d r _ j x fG (fun i z ft bO=>by rw [← xG];exact aQ (i+1) z ak (by simpa using bO)) aa
mutual
theorem NP:∀ (x:ae) (w:bo) (d:Nat) (k:Int),(eU w d k x).1=true→0≤(eU w d k x).2∧(eU w d k x).2≤k
  | .mk o a p c n ks,w,d,k,h=>by
    rw [eU] at h ⊢;split at h
    · cases h
    · rename_i aw
      rw [f4 aw];simp only [aj',f5,not_or] at aw;split at h
      · rename_i av
        rw [f7 av];have:=NQ ks w (d-1) (k-1) h ak;omega
      · cases h
theorem NQ:∀ (ks:List ae) (w:bo) (d:Nat) (k:Int),(gH w d k ks).1=true→0≤k→0≤(gH w d k ks).2∧(gH w d k ks).2≤k
  | [],w,d,k,_,bn=>by rw [gH];exact ⟨bn,ap8 _⟩
  | x::r,w,d,k,h,bn=>by
    rw [gH] at h ⊢;split at h
    · rename_i aa
      rw [f7 aa];have U:=NP x w d k aa;have ad:=NQ r w d _ h U.1;omega
    · cases h
end
theorem NR {w:bo} {d:Nat} {ks:List ae} {k:Int} (bn:0≤k):∀ (j:Nat),(∀ (i:Nat) y,i<j→ks[i]? = some y→(eU w d (ly w d k ks i) y).1=true)→0≤ly w d k ks j∧ly w d k ks j≤k
  | 0,_=>⟨bn,ap8 _⟩
  | j+1,h=>by
    have U:=NR bn j fun i y aQ ar=>h i y ak ar
    rw [ly];cases aa:ks[j]? with
    | none=>exact U
    | some x=>
      have ad:=NP x w d _ (h j x (ar8 _) aa);simp only;omega
theorem Yf (w:bo) (up:List Nat) (dI:Nat) (y:ae) (d:Nat) (k:Int) (aA:d≤12) (n7:0<d)
  (h:bs d4 300 [gf w up,y.bh,.ptr dI 0,.int .i64 ((d-1:Nat):Int)] (mu dI k) (fun o K=>o = .ret (.bool (eU w (d-1) k y).1)∧K=mu dI (eU w (d-1) k y).2)) :
  df d4 (.func 345 [] [.bl [gf w up] 0,.bl [.ptr dI 0] 0,.bl [.int .i64 (d:Int)] 0]) [y.bh] (mu dI k) (fun o K=>o = .ret (.bool (eU w (d-1) k y).1)∧K=mu dI (eU w (d-1) k y).2):=by
 refine df.ey (first:=[]) (cap:=[.bl [gf w up] 0,.bl [.ptr dI 0] 0,.bl [.int .i64 (d:Int)] 0]) ?_;refine bs.bj ah Tryz.func345 C C fun s I=>?_
 have hw:ai' .i64 ((d:Int)-1)=((d-1:Nat):Int):=by rw [hf ak ak];omega
 rw [ae.bJ] at h ⊢;rw [← hw] at h;unfold gf at h ⊢;refine cX ?_;refine ab.bL rfl rfl rfl rfl rfl h I (az.all _) ?_ (fun _ _ ⟨h,_⟩ _=>by cases h);rintro _ _ ⟨⟨⟩,rfl⟩ I;rw [d7] at I ⊢;refine eB ?_;exact Fin.bz I C aH (az.all _) ⟨rfl,rfl⟩
theorem Yg (w:bo) (up:List Nat) (hw:w.ps.length≤60) (dI:Nat):∀ (n:Nat) (f:ae) (d:Nat) (k:Int),f.size≤n→n<bK→d≤12→0≤k→k≤bK →
    bs d4 300 [gf w up,f.bh,.ptr dI 0,.int .i64 (d:Int)] (mu dI k) (fun o K=>o = .ret (.bool (eU w d k f).1)∧K=mu dI (eU w d k f).2):=by
  have aq:=bx;intro n
  induction n with
  | zero=>intro x d k h;have:=x.size_eq;omega
  | succ n a8=>
    intro f d k av nH aA ma iB;have vE:ai' .i64 (k-1)=k-1:=hf ak ak;refine bs.bj ah Tryz.func300 C C fun s I=>?_
    have o6:=f.size_eq;have aw:=Ye w d k f;have U:=X0 f.op;have ad:=NG f;have aj:=X6 w up f.path ak;have bk:=H5 w up f.cls hw;rw [ae.bJ] at ad ⊢;unfold gf br at aj;unfold gf at bk ⊢;unfold mu at I ⊢;refine hC I ?_;intro I;rw [vE] at I ⊢
    repeat' (first|(with_reducible first|apply af.seq|apply cg|apply jA|apply iP|apply mm|apply af.ret|apply af.skip|apply af.block)|refine e7 C ?_|refine af.cv ?_|refine ab.nil ?_|refine af.hA C ?_|refine cq C ?_|refine ab.skip C C C ?_|refine aS.nil ?_|refine aS.step C ?_|refine ab.eT C C C C C cD ?_|refine aS.eT C C C C C cD ?_|(fail_if_success refine ab.same true C ?_);(fail_if_success refine ab.same false C ?_);refine ab.m3 C C (fun h=>?_) (fun h=>?_)|(fail_if_success refine aS.same true C ?_);(fail_if_success refine aS.same false C ?_);refine aS.m3 C C (fun h=>?_) (fun h=>?_)|refine af.cond C (fun h=>?_) (fun h=>?_))
    all_goals first
      | (have key:eU w d k f=(false,k-1):=by
          clear a8 I U ad aj bk av o6 vE
          rw [aw]
          simp only [fr,lr,ae.c7] at *
          grind
         exact Fin.bz (K:=mu dI (k-1)) I C aH (by simp only [mu];exact a') ⟨by rw [key],by rw [key];rfl⟩)
      | (have uf:f.kids=[]:=by
          clear a8 I U ad aj bk av o6 vE aw
          refine ak7 ?_
          simp only [fr,lr,ae.c7,qM,f6] at *
          grind
         have key:eU w d k f=(fr w f,k-1):=by
          clear a8 I U ad aj bk av o6 vE
          rw [aw,uf,gH]
          grind
         refine Fin.bz (K:=mu dI (k-1)) I C (aR.of_eq (ak5 ag.bool ?_)) (by simp only [mu];exact a') ⟨by rw [key],by rw [key];rfl⟩
         clear a8 I U ad aj bk av o6 vE aw key
         simp only [fr,lr,ae.c7,qM,f6] at *
         grind)
      | skip
    have Yh:fr w f=true:=by
      clear a8 I U ad aj bk av o6 vE aw;simp only [fr,lr,ae.c7,f6] at *;simp at *;grind
    have n7:0<d:=by
      rcases Nat.eq_zero_or_pos d with rfl|h
      · simp_all
      · exact h
    have ug:¬ k-1<0:=by
      clear a8 I U ad aj bk;grind
    have key:eU w d k f=gH w (d-1) (k-1) f.kids:=by
      rw [aw,f4 ez,f7 Yh]
    have hlen:=ae.vy f.kids
    have uf:=Yd 345 [] [.bl [gf w up] 0,.bl [.ptr dI 0] 0,.bl [.int .i64 (d:Int)] 0] f.kids (fun j=>mu dI (ly w (d-1) (k-1) f.kids j)) (fun j=>match f.kids[j]? with|some x=>(eU w (d-1) (ly w (d-1) (k-1) f.kids j) x).1|none=>true) ak (fun j x aa aQ=>by
      have vF:=NR (w:=w) (d:=d-1) (ks:=f.kids) (k:=k-1) ak j (fun i y ft ar=>by have:=aQ i ft;simp only [ar] at this;simpa using this)
      have hm:=ae.hg (d8 aa)
      have:=Yf w up dI x d (ly w (d-1) (k-1) f.kids j) aA n7 (a8 x (d-1) _ ak ak ak vF.1 ak)
      simp only [ly,aa]
      exact this)
    unfold gf at uf;skip;refine ab.bL C C C C C uf I (by simp only [mu,ly];exact a') ?_ (fun _ _ h _=>by rcases h with ⟨h,_⟩|⟨_,_,_,_,h,_⟩<;>cases h);rintro _ _ (⟨⟨⟩,rfl,g1⟩|⟨j,g1,g2,g3,⟨⟩,rfl⟩) I
    · have:=NN w (d-1) f.kids (k-1) (fun j x aa=>by have:=g1 j (ac'.1 aa).1;simp only [aa] at this;simpa using this)
      rw [key,this];refine eB ?_;exact Fin.bz (K:=mu dI _) I C aH (by simp only [mu,d5,d0];exact a') ⟨rfl,rfl⟩
    · obtain ⟨x,aa,-⟩:=b' (f:=ae.bh) g1
      simp only [aa] at g2;have:=NO w (d-1) f.kids (k-1) j x aa (fun i y ft ar=>by have:=g3 i ft;simp only [ar] at this;simpa using this) (by simpa using g2);rw [key,this];refine eB ?_;exact Fin.bz (K:=mu dI _) I C aH (by simp only [mu,d5,d0];exact a') ⟨rfl,rfl⟩
abbrev NS (w:bo):List Nat:=pad (fK w.ps)
abbrev jT (w:bo):ag:=gf w (NS w)
theorem Yi (w:bo) (hw:w.ps.length≤60) (f:ae) (aZ:f.size<bK):cY d4 (.func 299 [] [.bl [jT w] 0]) [f.bh] (.bool (hi w f)):=by
 have aq:=bx;refine cY.ey (first:=[]) (cap:=[.bl [jT w] 0]) ?_;refine aY.bj ah Tryz.func299 C C fun s I=>?_
 rw [ae.bJ];unfold jT gf
 repeat (first|(refine WG I ?_;clear I;intro I)|refine ab.c3 ah I rfl rfl rfl rfl rfl rfl rfl (fun cu I=>?_))
 have av:=Yg w (NS w) hw cu f.size f 12 24 (t7 _) aZ ak ak ak;rw [ae.bJ] at av;unfold gf at av;refine ab.bL C C C C C av I (by simp only [mu];exact a') ?_ (fun _ _ ⟨h,_⟩ _=>by cases h);rintro _ _ ⟨⟨⟩,rfl⟩ I;rw [d7] at I ⊢;refine ab.m4 I [] a' fun I=>?_
 refine eB ?_;exact b2 I
theorem Yj (w:bo) (hw:w.ps.length≤60) (l:List ae) (aE:l.length<bK) (aZ:∀ f∈l,f.size<bK):aY d4 240 [jT w,.aF 6 (l.map ae.bh) .a7] (.bool (l.all (hi w))):=by
 have aq:=bx;refine aY.bj ah Tryz.func240 C C fun s I=>?_
 have U:=XV 299 [] [.bl [jT w] 0] (hi w) l aE (fun x aa=>Yi w hw x (aZ x aa));unfold jT gf at *;refine gw ?_;exact b2 I
theorem H' (w:bo) (hw:fJ w) (l:List ae) (aE:l.length<bK) (aZ:∀ f∈l,f.size<bK):aY d4 185 [jD w,.aF 6 (l.map ae.bh) .a7] (.bW [jT w,.bool (l.all (hi w))]):=by
 have aq:=bx;refine aY.bj ah Tryz.func185 C C fun s I=>?_
 have U:=NM w hw;have ad:=Yj w hw.few l aE aZ;unfold jD fL fk br at *;unfold jT gf at *;refine gw ?_;exact b2 I
theorem Yk (w:bo) (hw:fJ w) (f:ae) (aZ:f.size<bK):aY d4 287 [jD w,f.bh] (.int .i64 (if hi w f then 0 else 2)):=by
 have aq:=bx;refine aY.bj ah Tryz.func287 C C fun s I=>?_
 have U:=H' w hw [f] ez (by intro g ay;rw [i7] at ay;subst ay;exact aZ);have ad:=X7 (hi w f);rw [ai2,aj5,ae.bJ] at U;rw [aq6,List.all_nil,Bool.and_true] at U;rw [ae.bJ];unfold jD fL fk br at *;refine c1 ?_;exact b2 I
structure xH (w:bo) (c0:List ji):Prop where
 few:c0.length≤40
 each:∀ o∈c0,(3≤o.cls∧o.cls<3+(w.ps.length:Int))∧o.bB.length=(tY w (lu w o.cls)).length∧∀ v∈o.bB,zg c0.length v=true
theorem xH.of {w:bo} {c0:List ji} (h:HM w c0=true):xH w c0:=by
 unfold HM at h;rw [d6,f5,ai4] at h;refine ⟨h.1,fun o ai=>?_⟩;have:=h.2 o ai;unfold MZ MY at this;simp only [d6,f5,ai4] at this;exact ⟨⟨by omega,by omega⟩,this.2.1,this.2.2⟩
def atR (r:Option (Int×Int)):ag := .bW [XP (r.getD (0,0)),.bool r.isSome]
theorem NT {α:Type}:∀ {l:List α},l.length=2→∃ a b,l=[a,b]
 | [a,b],_=>⟨a,b,rfl⟩
structure By (w:bo) (f:ae):Prop where
 arg:0≤f.arg∧f.arg<3
 path:f.path.length≤2
 bB:∀ s∈f.path,0≤s∧s<(w.owner.length:Int)
 cls:f.op=2→0≤f.cls∧f.cls<3+(w.ps.length:Int)
theorem By.of {w:bo} {f:ae} (h:fr w f=true) (aE:f.c7=true):By w f:=by
 simp only [fr,aE,ak2,d6,f5,ai4] at h;obtain ⟨U,ad,aj,bk,bF,fx,gL,pa⟩:=h;refine ⟨⟨by omega,bF⟩,fx,fun s al=>by have:=gL s al;simpa using this,fun ad=>?_⟩;rw [f7 ad] at pa;simp only [d6,f5] at pa;omega
theorem Ef {w:bo} {f:ae} (h:fr w f=true):(f.op=1∧f.kids=[])∨(f.c7=true∧f.kids=[]∧(f.op=2∨f.op=3∨f.op=4))∨(f.op=5∧∃ x,f.kids=[x])∨((f.op=6∨f.op=7)∧∃ x y,f.kids=[x,y]):=by
 have bn:=h;simp only [fr,d6,f5] at h;obtain ⟨U,ad,aj,bk⟩:=h;have aw:f.op=1∨(f.op=2∨f.op=3∨f.op=4)∨f.op=5∨f.op=6∨f.op=7:=by omega
 rcases aw with h|h|h|h|h
 ·left
  refine ⟨h,ak7 ?_⟩;rw [aj,h];rfl
 ·right;left
  refine ⟨?_,ak7 ?_,h⟩
  ·unfold ae.c7;simp;omega
  ·rw [aj];rcases h with h|h|h<;>rw [h]<;>rfl
 ·right;right;left
  refine ⟨h,List.length_eq_one_iff.1 ?_⟩;rw [aj,h];rfl
 ·right;right;right
  refine ⟨.inl h,?_⟩;obtain ⟨a,b,kC⟩:=NT (show f.kids.length=2 by rw [aj,h];rfl);exact ⟨a,b,kC⟩
 ·right;right;right
  refine ⟨.inr h,?_⟩;obtain ⟨a,b,kC⟩:=NT (show f.kids.length=2 by rw [aj,h];rfl);exact ⟨a,b,kC⟩
theorem Yl {w:bo} {c0:List ji} {args:List (Int×Int)} (h:DZ w c0 args=true):xH w c0∧args.length≤3∧∀ v∈args,zg c0.length v=true:=by
 unfold DZ at h;simp only [d6,f5,ai4] at h;exact ⟨xH.of h.1,h.2.2.1,h.2.2.2⟩
theorem NU:∀ (a b:List ae),p2 ae.same a b=ae.pZ a b
 | [],[]=>by rw [p2,ae.pZ]
 | [],_::_=>by rw [p2,ae.pZ]<;>simp
 | _::_,[]=>by rw [p2,ae.pZ]<;>simp
 | x::r,y::t=>by rw [p2,ae.pZ,NU r t]
theorem Ym (f g:ae):ae.same f g=(decide (f.op=g.op)&&(decide (f.arg=g.arg)&&(decide (f.cls=g.cls)&&(decide (f.n=g.n)&&(f.path==g.path&&ae.pZ f.kids g.kids))))):=by
 cases f;cases g;rw [ae.same];rfl
theorem Yn:∀ (n:Nat) (f g:ae),f.size≤n→n<bK→g.size<bK→aY d4 383 [f.bh,g.bh] (.bool (ae.same f g)):=by
  have aq:=bx;intro n
  induction n with
  | zero=>intro x _ h;have:=x.size_eq;omega
  | succ n a8=>
    intro f g av nH ay;have U:=f.size_eq;have ad:=g.size_eq;have oc:=ae.vy f.kids;have cV:=ae.vy g.kids;have aj:=D4 f.path g.path ak ak
    have bk:=Ny (.func 383 [] []) ae.same f.kids g.kids ak ak (fun x aa y ar=>cY.ey (first:=[]) (cap:=[]) (by
      have:=ae.hg aa
      have:=ae.hg ar
      exact a8 x y ak ak ak))
    rw [NU] at bk;refine aY.bj ah Tryz.func383 C C fun s I=>?_
    rw [ae.bJ,ae.bJ,Ym];unfold br ba at aj
    repeat' (first|(with_reducible first|apply af.seq|apply cg|apply af.ret)|refine e7 C ?_|refine af.cv ?_|refine ab.nil ?_|refine cq C ?_|refine ab.skip C C C ?_|refine ab.eT C C C C C cD ?_|(fail_if_success refine ab.same true C ?_);(fail_if_success refine ab.same false C ?_);refine ab.m3 C C (fun h=>?_) (fun h=>?_))
    all_goals (refine Fin.cZ I C (aR.of_eq (ak5 ag.bool ?_));clear I aj bk a8;grind)
theorem Yo (x y:bG) (aa:x.1.size<bK) (ar:y.1.size<bK):cY d4 (.func 382 [] [.bl (qQ x) 0]) [et y] (.bool (rL x y)):=by
 have aq:=bx;refine cY.ey (first:=[]) (cap:=[.bl (qQ x) 0]) ?_;refine aY.bj ah Tryz.func382 C C fun s I=>?_
 obtain ⟨f,b⟩:=x;obtain ⟨g,c⟩:=y;have U:=Yn f.size f g (t7 _) aa ar;rw [ae.bJ,ae.bJ] at U;unfold et qQ rL;simp only
 repeat' (first|(with_reducible first|apply af.seq|apply cg|apply af.ret)|refine e7 C ?_|refine af.cv ?_|refine ab.nil ?_|refine cq C ?_|refine ab.skip C C C ?_|refine ab.eT C C C C C cD ?_|(fail_if_success refine ab.same true C ?_);(fail_if_success refine ab.same false C ?_);refine ab.m3 C C (fun h=>?_) (fun h=>?_))
 all_goals (refine Fin.cZ I C (aR.of_eq (ak5 ag.bool ?_));clear I U;grind)
theorem NV (l:List bG):∀ y∈l.map et,mf 7 y=true:=XX l
theorem Yp (l:List bG) (own:bM) (aE:l.length<bK):bs d4 380 [.aF 7 (l.map et) own] [] (fun o K=>∃ dZ,o = .ret (.aF 7 (l.map et) dZ)∧K=[(dZ,.row 408 7 l.length)]):=by
 have aq:=bx;refine bs.bj ah Tryz.func380 C C fun s I=>?_
 refine cX ?_;refine ab.op C C C (aX.Bu ah C C C C (X:=fun _ _=>False)) ?_ (fun _ _ h=>False.elim h);rintro r an ⟨rfl,⟨rfl,av⟩|rfl⟩
 ·have va:l.length=0:=by simpa using ak5 az8 av
  refine ab.hv I 408 7 0 fun I=>?_
  refine bd ?_;rw [av,va];exact Fin.bz I C (aR.nil gF) (az.all _) ⟨.nil,rfl,rfl⟩
 ·refine bd ?_
  refine ab.D8 I 408 7 0 fun I=>?_
  refine ab.lN ah I C C C C C C C dB C C C C (.inr C) C (NV l) C .here C (n':=l.length) bc (by simp only [ai9,aj8,f6];show _*88≤_;omega) Bd (fun pb I=>?_);refine eB ?_;exact Fin.bz I C aH (az.all _) ⟨pb,rfl,rfl⟩
theorem Yq (fv:ag) (xs:List bG) (T:Nat→a6) (cR:Nat→Bool) (aE:xs.length<bK) (h:∀ j x,xs[j]? = some x→(∀ i,i<j→cR i=false)→df d4 fv [et x] (T j) (fun o K=>o = .ret (.bool (cR j))∧K=T (j+1))) :
  bs d4 400 [.aF 7 (xs.map et) .a7,fv] (T 0)
   (fun o K=>(o = .ret (.int .i64 (-1))∧K=T xs.length∧∀ i,i<xs.length→cR i=false)∨∃ j,j<xs.length∧cR j=true∧(∀ i,i<j→cR i=false)∧o = .ret (.int .i64 (j:Int))∧K=T (j+1)):=by
 have aq:=bx;refine bs.bj ah Tryz.func400 C C fun s I=>?_
 refine gp ?_;refine af.A9 I (σ:=Nat) (fun j=>[(0,.aF 7 (xs.map et) .a7),(1,fv),(7,.int .i64 xs.length),(8,.int .i64 (j:Int))]) T (fun j=>j≤xs.length∧∀ i,i<j→cR i=false) (fun j=>xs.length-j) 0 ⟨by omega,fun i aQ=>by omega⟩ (by repeat (first|exact trivial|refine ⟨⟨_,rfl,aH⟩,?_⟩|refine ⟨⟨_,rfl,aR.of_eq bc⟩,?_⟩)) (az.all _) ?_;rintro j ⟨aK,aG⟩ I;refine cl ?_;refine af.cond C (fun au=>?_) (fun aV=>?_)
 ·have au:j<xs.length:=by simpa using au
  obtain ⟨x,aa,bY⟩:=b' (f:=et) au;have aD:=h j x aa aG
  try rw [et] at bY aD
  refine bd ?_;refine ab.e0 rfl rfl rfl rfl rfl rfl aD I (az.all _) ?_ (fun _ _ ⟨h,_⟩ _=>by cases h);rintro _ _ ⟨⟨⟩,rfl⟩ I;rw [d7] at I ⊢;cases nT:cR j with
  | true=>
   refine bd ?_;exact Fin.bz I C aH (az.all _) (.inr ⟨j,au,nT,aG,rfl,rfl⟩)
  | false=>
   refine bd ?_
   exact bA.mk (j+1) I ⟨au,fun i aQ=>by
    rcases am1.1 aQ with aQ|rfl
    ·exact aG i aQ
    ·exact nT⟩ ct (az.all _) mq
 ·have aV:j=xs.length:=by
   have:xs.length≤j:=by simpa using aV
   omega
  subst aV;refine fb ?_;exact Fin.bz I C aH (az.all _) (.inl ⟨rfl,rfl,aG⟩)
theorem Yr (fv:ag) (xs:List bG) (T:Nat→a6) (cR:Nat→Bool) (aE:xs.length<bK) (h:∀ j x,xs[j]? = some x→(∀ i,i<j→cR i=false)→df d4 fv [et x] (T j) (fun o K=>o = .ret (.bool (cR j))∧K=T (j+1))) :
  bs d4 381 [.aF 7 (xs.map et) .a7,fv] (T 0)
   (fun o K=>(o = .ret (.bool false)∧K=T xs.length∧∀ i,i<xs.length→cR i=false)∨∃ j,j<xs.length∧cR j=true∧(∀ i,i<j→cR i=false)∧o = .ret (.bool true)∧K=T (j+1)):=by
 refine bs.bj ah Tryz.func381 C C fun s I=>?_
 refine cX ?_;refine ab.bL rfl rfl rfl rfl rfl (Yq fv xs T cR aE h) I (az.all _) ?_ (fun _ _ h _=>by rcases h with ⟨h,_⟩|⟨_,_,_,_,h,_⟩<;>cases h);rintro _ _ (⟨⟨⟩,rfl,U⟩|⟨j,U,ad,aj,⟨⟩,rfl⟩) I
 all_goals rw [d7] at I ⊢
 ·refine eB ?_
  exact Fin.bz I C aH (az.all _) (.inl ⟨rfl,rfl,U⟩)
 ·refine eB ?_
  exact Fin.bz I C (by simp;exact aH) (az.all _) (.inr ⟨j,U,ad,aj,rfl,rfl⟩)
theorem Ys (fv:ag) (q:bG→Bool) (xs:List bG) (aE:xs.length<bK) (h:∀ x∈xs,cY d4 fv [et x] (.bool (q x))) :
  aY d4 381 [.aF 7 (xs.map et) .a7,fv] (.bool (xs.any q)):=
 HZ (fun T cR dR=>Yr fv xs T cR aE dR) h
theorem Yt (a b:List bG) (aE:a.length+b.length<bK) (bp:∀ x∈a,x.1.size<bK) (jU:∀ x∈b,x.1.size<bK):aY d4 350 [.aF 7 (a.map et) .a7,.aF 7 (b.map et) .a7] (.aF 7 ((iT a b).map et) .a7):=by
 have aq:=bx;refine aY.bj ah Tryz.func350 C C fun s I=>?_
 have U:=Yp a .a7 ak;have hlen:∀ j,(iT a (b.take j)).length≤a.length+j:=fun j=>by
  have:=HQ (b.take j) a;have:=List.length_take_le j b;omega
 have gV:∀ j,∀ x∈iT a (b.take j),x.1.size<bK:=fun j x aa=>by
  rcases Bp _ _ aa with h|h
  ·exact bp x h
  ·exact jU x (List.mem_of_mem_take h)
 refine cX ?_;refine ab.bL rfl rfl rfl rfl rfl U I (az.all _) ?_ (fun _ _ ⟨_,h,_⟩ _=>by cases h);rintro _ _ ⟨Yu,⟨⟩,rfl⟩ I;rw [d7] at I ⊢;refine bd ?_;refine af.cc [10,11] C I (σ:=Nat×bM) (fun q=>[(12,.int .i64 (q.1:Int)),(5,.aF 7 ((iT a (b.take q.1)).map et) q.2)]) (fun q=>[(q.2,.row 408 7 (iT a (b.take q.1)).length)]) (fun q=>q.1≤b.length) (fun q=>b.length-q.1) (0,Yu) (g9 _) (cy C) a' ?_;rintro ⟨j,own⟩ aK I;simp only at aK I ⊢;refine cl ?_;refine af.cond C (fun au=>?_) (fun aV=>?_);rotate_left
 ·have aV:j=b.length:=by simp at aV;omega
  subst aV;rw [ag'];refine fb ?_;exact Fin.cZ I C aR.a7
 have au:j<b.length:=by simpa using au
 obtain ⟨x,aa,bY⟩:=b' (f:=et) au;have al:iT a (b.take (j+1))=nQ (iT a (b.take j)) x:=by
  unfold iT;rw [fD aa,aq'];rfl
 unfold nQ at al;have fi:=jU x (d8 aa);have oc:=hlen j;have sE:=gV j;generalize dr:iT a (b.take j)=out at I al oc sE ⊢;have aw:=Ys (.func 382 [] [.bl (qQ x) 0]) (rL x) out ak (fun y ar=>Yo x y fi (sE y ar));cases aD:out.any (rL x) with
 | true=>
  rw [aD] at aw;rw [aD,f7 C] at al;refine ej ?_;exact bA.mk (j+1,own) I au (by repeat (first|exact trivial|refine ⟨⟨_,rfl,aH⟩,?_⟩|refine ⟨⟨_,rfl,aR.of_eq Hv⟩,?_⟩)) (by show az _ [(_,.row _ _ (iT a (b.take (j+1))).length)] _;rw [al];exact az.fQ _) (by show b.length-(j+1)<b.length-j;omega)
 | false=>
  rw [aD] at aw;rw [aD,f4 bc] at al;refine ej ?_;refine ab.gn ah I C C C C C C C dB C C C C C C C C aO h' (by show (_+1)*88≤_;omega) ak (fun b1 I=>?_);refine iQ ?_;exact bA.mk (j+1,.own b1) I au (by repeat (first|exact trivial|refine ⟨⟨_,rfl,aH⟩,?_⟩|refine ⟨⟨_,rfl,aR.of_eq (by (first|rw [lo ak]|(rw [al,t8];rfl)))⟩,?_⟩)) (by show az _ [(_,.row _ _ (iT a (b.take (j+1))).length)] _;rw [al,f0,ad'];exact az.fQ _) (by show b.length-(j+1)<b.length-j;omega)
theorem df.args {P:Program} {fv:ag} {xs ys:List ag} {K:a6} {aik:eS→a6→Prop} (h:b5 xs ys) (k:df P fv ys K aik):df P fv xs K aik:=
 fun s I w p v vs ca aD aC=>k s I w p v vs ca aD (h.rel aC)
def Yv (dQ:Nat):ag := .func 347 [] [.ptr dQ 0]
abbrev qR (l:List bG):ag := .aF 7 (l.map et) .a7
def sY (dQ:Nat):ds := .box 406 [Yv dQ]
def Bz {α:Type} (Go:List α→a6→Prop) (fu:a6→Prop) (fC:ag→a6→Prop) (rem:List α) (o:eS) (aM:a6):Prop:=
 (o = .ret (.bool true)∧Go rem aM)∨(o = .ret (.bool false)∧fu aM)∨∃ v,o = .panic v∧fC v aM
structure BA (dQ:Nat) (fv:ag) (Go:List (List bG)→a6→Prop) (fu:a6→Prop) (fC:ag→a6→Prop):Prop where
 one:cellsOf fv=some [fv]
 call:∀ x rem K,Go (x::rem) K→df d4 fv [qR x] K (Bz Go fu fC rem)
 rS:∀ xs K,Go xs K→∃ R,bm K (.own dQ) (sY dQ) R
 xI:∀ K,fu K→∃ R,bm K (.own dQ) (sY dQ) R
theorem Yw {dQ:Nat} {fv:ag} {Go:List (List bG)→a6→Prop} {fu:a6→Prop} {fC:ag→a6→Prop} (dR:BA dQ fv Go fu fC) (a z:List bG) (aE:a.length+z.length<bK) (bp:∀ x∈a,x.1.size<bK) (bO:∀ x∈z,x.1.size<bK) (rem:List (List bG)) (K:a6) (ep:Go (iT a z::rem) K) :
  df d4 (.func 349 [] [.bl [fv] 0,.bl [qR a] 0]) [qR z] K (Bz Go fu fC rem):=by
 refine df.ey (first:=[]) (cap:=[.bl [fv] 0,.bl [qR a] 0]) ?_;refine bs.bj ah Tryz.func349 C C fun s I=>?_
 have U:=Yt a z aE bp bO;have ad:=dR.call _ _ _ ep;refine Bb ?_;refine aS.X9 C C C C C C C ad I (az.all _) ?_ ?_
 ·rintro x aM (⟨⟨⟩,ay⟩|⟨⟨⟩,aA⟩|⟨_,⟨⟩,_⟩) I
  all_goals rw [d7] at I ⊢
  ·refine dS ?_
   exact Fin.bz I C aH (az.all _) (.inl ⟨rfl,ay⟩)
  ·refine dS ?_
   exact Fin.bz I C aH (az.all _) (.inr (.inl ⟨rfl,aA⟩))
 ·rintro x aM (⟨h,_⟩|⟨h,_⟩|⟨v,⟨⟩,aB⟩) I
  ·cases h
  ·cases h
  rw [d7] at I ⊢;exact Fin.e1 I aH (az.all _) (.inr (.inr ⟨_,rfl,aB⟩))
theorem Yx (w:bo) (dQ:Nat):∀ (n:Nat) (f:ae),f.size≤n→n<bK→dU w f=true→∀ (b:Bool) (fv:ag) (Go:List (List bG)→a6→Prop) (fu:a6→Prop) (fC:ag→a6→Prop),BA dQ fv Go fu fC →
  ∀ (rest:List (List bG)) (K:a6),Go (hL b f++rest) K→bs d4 347 [f.bh,.bool b,fv,.ptr dQ 0] K (Bz Go fu fC rest):=by
 have aq:=bx;intro n
 induction n with
 | zero=>intro x h;have:=x.size_eq;omega
 | succ n a8=>
  intro f av nH ay b fv Go fu fC dR rest K ep;obtain ⟨R,al⟩:=dR.rS _ _ ep;have vD:=dR.one;have o6:=f.size_eq;have kl:=HR b f;rw [p0,d6] at ay;obtain ⟨Eg,uh⟩:=ay;have mv:=NG f;rw [ae.bJ] at mv;refine bs.bj ah Tryz.func347 C C fun s I=>?_
  rw [ae.bJ];rcases Ef Eg with ⟨U,ad⟩|⟨aE,ad,U⟩|⟨U,x,ad⟩|⟨U,x,y,ad⟩
  ·rw [kl,U,f7 C] at ep
   unfold ae.cells;rw [U];cases b with
   | true=>
    refine cX ?_;refine ab.h0 I C C C C C vD (fun rT I=>?_);refine ab.im I 6 rT C .here (fun I=>?_);refine bd ?_;exact Fin.bz I C aH (az.all _) (.inl ⟨rfl,ep⟩)
   | false=>
    have aj:=df.args (show b5 [.aF 0 [] .nil] [qR []] from .one aR.empty) (dR.call _ _ _ ep);refine cX ?_;refine ab.h0 I C C C C C vD (fun rT I=>?_);refine ab.im I 6 rT C .here (fun I=>?_);refine bd ?_;refine ab.e0 C C C C C C aj I (az.all _) ?_ ?_
    ·rintro x aM (⟨⟨⟩,ay⟩|⟨⟨⟩,aA⟩|⟨_,⟨⟩,_⟩) I
     all_goals rw [d7] at I ⊢
     ·refine bd ?_
      exact Fin.bz I C aH (az.all _) (.inl ⟨rfl,ay⟩)
     ·refine bd ?_
      exact Fin.bz I C aH (az.all _) (.inr (.inl ⟨rfl,aA⟩))
    ·rintro x aM (⟨h,_⟩|⟨h,_⟩|⟨v,⟨⟩,aB⟩) I
     ·cases h
     ·cases h
     rw [d7] at I ⊢;exact Fin.e1 I aH (az.all _) (.inr (.inr ⟨_,rfl,aB⟩))
  ·rw [kl,f4 ak,f4 ak,f7 aE] at ep
   rw [aE] at mv;have cx:(f.op==1)=false:=by simp;omega
   have cE:(f.op==5)=false:=by simp;omega
   have aj:=df.args (show b5 [.aF 7 [et (f,b)] .clip] [qR [(f,b)]] from .one aR.a7) (dR.call _ _ _ ep);unfold et qQ ae.cells at aj;unfold ae.cells;refine cX ?_;refine ab.h0 I C C C C C vD (fun rT I=>?_);refine ab.im I 6 rT C .here (fun I=>?_);refine bd ?_;refine af.cond C (fun h=>by rw [cx] at h;cases h) (fun _=>?_);refine cl ?_;refine af.cond C (fun h=>by rw [cE] at h;cases h) (fun _=>?_);refine dS ?_;refine ab.e0 C C C C C C aj I (az.all _) ?_ ?_
   ·rintro x aM (⟨⟨⟩,ay⟩|⟨⟨⟩,aA⟩|⟨_,⟨⟩,_⟩) I
    all_goals rw [d7] at I ⊢
    ·refine bd ?_
     exact Fin.bz I C aH (az.all _) (.inl ⟨rfl,ay⟩)
    ·refine bd ?_
     exact Fin.bz I C aH (az.all _) (.inr (.inl ⟨rfl,aA⟩))
   ·rintro x aM (⟨h,_⟩|⟨h,_⟩|⟨v,⟨⟩,aB⟩) I
    ·cases h
    ·cases h
    rw [d7] at I ⊢;exact Fin.e1 I aH (az.all _) (.inr (.inr ⟨_,rfl,aB⟩))
  ·have aa:=ae.hg (l:=f.kids) (x:=x) qK
   have i1:=a8 x ak ak (o5 uh qK) (!b) fv Go fu fC dR rest K;have bT:([x].map ae.bh)[0]? = some (.agg x.cells):=by rw [← ae.bJ];rfl
   rw [kl,U,f4 ak,f7 C,ad,qN _ 0 [x] x C] at ep;have i1:=df.ey (first:=[]) (args:=[x.bh,.bool (!b),fv]) (cap:=[.ptr dQ 0]) (i1 ep);rw [ae.bJ] at i1;unfold sY at al;unfold ae.cells;rw [U,ad];refine cX ?_;refine ab.h0 I C C C C C vD (fun rT I=>?_);refine ab.im I 6 rT C .here (fun I=>?_);refine ab.run ah C (ab.nil ?_)
   repeat (first
    | refine af.m7 I dQ al ah mixed C ?_
    | with_reducible apply af.seq
    | with_reducible apply cg
    | with_reducible apply iP
    | with_reducible apply af.block
    | refine af.hA C ?_
    | refine af.hp C ?_
    | refine e7 C ?_
    | refine af.skip ?_)
   refine kU ?_;refine aS.zn C C C C C C C i1 I (az.all _) (fun x aM h=>?_) ?_ ?_
   ·rw [d7]
    rcases h with ⟨_,h⟩|⟨_,h⟩|⟨_,h,_⟩
    ·exact dR.rS _ _ h
    ·exact dR.xI _ h
    ·cases h
   ·rintro x aM (⟨⟨⟩,ay⟩|⟨⟨⟩,aA⟩|⟨_,⟨⟩,_⟩) I
    all_goals rw [d7] at I ⊢
    ·refine dS ?_
     exact Fin.bz I C aH (az.all _) (.inl ⟨rfl,ay⟩)
    ·refine dS ?_
     exact Fin.bz I C aH (az.all _) (.inr (.inl ⟨rfl,aA⟩))
   ·rintro x aM (⟨h,_⟩|⟨h,_⟩|⟨v,⟨⟩,aB⟩) I
    ·cases h
    ·cases h
    rw [d7] at I ⊢;exact Fin.e1 I aH (az.all _) (.inr (.inr ⟨_,rfl,aB⟩))
  ·have aa:=ae.hg (l:=f.kids) (x:=x) qK
   have ar:=ae.hg (l:=f.kids) (x:=y) (by rw [ad];simp);have i1:=a8 x ak ak (o5 uh qK) b;have i2:=a8 y ak ak (o5 uh (by rw [ad];simp)) b;have bT:([x,y].map ae.bh)[0]? = some (.agg x.cells):=by rw [← ae.bJ];rfl
   have bI:([x,y].map ae.bh)[1]? = some (.agg y.cells):=by rw [← ae.bJ];rfl
   have pT:f.c7=false:=by unfold ae.c7;simp;omega
   have Ia:=vz f.kids b;have BB:=M8 f.kids b;rw [pT] at mv;have agG:=ep;rw [kl,f4 ak,f4 ak,f4 (by rw [pT];simp),ad,qN _ 0 [x,y] x C,qN _ 1 [x,y] y C] at ep;rw [ad] at Ia BB;have NW:=Ia 0;have NX:=Ia 1;rw [qN _ 0 [x,y] x C] at NW;rw [qN _ 1 [x,y] y C] at NX;rw [qN _ 0 [x,y] x C,qN _ 1 [x,y] y C] at BB;have b6:ae.cM [x,y]<bK:=by rw [← ad];omega
   unfold sY at al;unfold ae.cells at mv ⊢;by_cases Ib:b=decide (f.op=6)
   ·rw [f7 Ib,aj0] at ep
    have xJ:=df.ey (first:=[]) (args:=[x.bh,.bool b,fv]) (cap:=[.ptr dQ 0]) (i1 fv Go fu fC dR _ K ep);have vG:=fun K ep=>df.ey (first:=[]) (args:=[y.bh,.bool b,fv]) (cap:=[.ptr dQ 0]) (i2 fv Go fu fC dR rest K ep)
    rw [ae.bJ] at xJ vG;have cx:(f.op==1)=false:=by simp;omega
    have cE:(f.op==5)=false:=by simp;omega
    have dz:(b==(f.op==6))=true:=by rw [Ib];by_cases fx:f.op=6<;>simp [fx]
    rw [ad] at mv ⊢;refine cX ?_;refine ab.h0 I C C C C C vD (fun rT I=>?_);refine ab.im I 6 rT C .here (fun I=>?_);refine bd ?_;refine af.cond C (fun h=>by rw [cx] at h;cases h) (fun _=>?_);refine cl ?_;refine af.cond C (fun h=>by rw [cE] at h;cases h) (fun _=>?_);refine c1 ?_;refine af.cond C (fun _=>?_) (fun h=>by rw [dz] at h;cases h)
    repeat (first
     | refine af.m7 I dQ al ah mixed C ?_
     | with_reducible apply af.seq
     | with_reducible apply cg
     | with_reducible apply iP
     | with_reducible apply af.block
     | refine af.hA C ?_
     | refine af.hp C ?_
     | refine e7 C ?_
     | refine af.skip ?_)
    refine kU ?_;refine aS.zn C C C C C C C xJ I (az.all _) (fun x aM h=>?_) ?_ ?_
    ·rw [d7]
     rcases h with ⟨_,h⟩|⟨_,h⟩|⟨_,h,_⟩
     ·exact dR.rS _ _ h
     ·exact dR.xI _ h
     ·cases h
    rotate_left
    ·rintro x aM (⟨h,_⟩|⟨h,_⟩|⟨v,⟨⟩,aB⟩) I
     ·cases h
     ·cases h
     rw [d7] at I ⊢;exact Fin.e1 I aH (az.all _) (.inr (.inr ⟨_,rfl,aB⟩))
    rintro _ aM (⟨⟨⟩,ay⟩|⟨⟨⟩,aA⟩|⟨_,h,_⟩) I
    ·rw [d7] at I ⊢
     refine kU ?_;refine aS.zn C C C C C C C (vG _ ay) I (az.all _) (fun x aM h=>?_) ?_ ?_
     ·rw [d7]
      rcases h with ⟨_,h⟩|⟨_,h⟩|⟨_,h,_⟩
      ·exact dR.rS _ _ h
      ·exact dR.xI _ h
      ·cases h
     ·rintro x aM (⟨⟨⟩,ay⟩|⟨⟨⟩,aA⟩|⟨_,⟨⟩,_⟩) I
      all_goals rw [d7] at I ⊢
      ·refine dS ?_
       exact Fin.bz I C aH (az.all _) (.inl ⟨rfl,ay⟩)
      ·refine dS ?_
       exact Fin.bz I C aH (az.all _) (.inr (.inl ⟨rfl,aA⟩))
     ·rintro x aM (⟨h,_⟩|⟨h,_⟩|⟨v,⟨⟩,aB⟩) I
      ·cases h
      ·cases h
      rw [d7] at I ⊢;exact Fin.e1 I aH (az.all _) (.inr (.inr ⟨_,rfl,aB⟩))
    ·rw [d7] at I ⊢
     refine dS ?_;exact Fin.bz I C aH (az.all _) (.inr (.inl ⟨rfl,aA⟩))
    ·cases h
   ·rw [f4 Ib] at ep
    have cx:(f.op==1)=false:=by simp;omega
    have cE:(f.op==5)=false:=by simp;omega
    have dz:(b==(f.op==6))=false:=by
     cases b<;>simp_all
    have Yy:∀ (a:List bG) (rest:List (List bG)),a∈hL b x→BA dQ (.func 349 [] [.bl [fv] 0,.bl [qR a] 0]) (fun aO K=>(∀ z∈aO,z∈hL b y)∧Go (aO.map (iT a)++rest) K) fu fC:=fun a rest bp=>by
     refine ⟨rfl,fun z rem K ⟨bO,ay⟩=>?_,fun xs K h=>dR.rS _ _ h.2,dR.xI⟩;have BC:=bO z g8;refine df.mono (Yw dR a z (by have:=BB a z bp BC;omega) (fun u hu=>by have:=(NW a bp).2 u hu;omega) (fun u hu=>by have:=(NX z BC).2 u hu;omega) (rem.map (iT a)++rest) K ay) ?_;rintro o aM (⟨U,h⟩|h|h)
     ·exact .inl ⟨U,fun z xK=>bO z (f9 _ xK),h⟩
     ·exact .inr (.inl h)
     ·exact .inr (.inr h)
    have Yz:BA dQ (.func 348 [] [.ptr dQ 0,.bl f.cells 0,.bl [.bool b] 0,.bl [fv] 0]) (fun xs K=>(∀ a∈xs,a∈hL b x)∧Go ((xs.flatMap fun a=>(hL b y).map (iT a))++rest) K) fu fC:=by
     refine ⟨rfl,fun a rem K ⟨bp,ay⟩=>?_,fun xs K h=>dR.rS _ _ h.2,dR.xI⟩;obtain ⟨R,al⟩:=dR.rS _ _ ay;unfold sY at al;refine df.ey (first:=[]) (cap:=[.ptr dQ 0,.bl f.cells 0,.bl [.bool b] 0,.bl [fv] 0]) ?_;refine bs.bj ah Tryz.func348 C C fun s I=>?_
     rw [am0,aj0] at ay;have vG:=df.ey (first:=[]) (args:=[y.bh,.bool b,.func 349 [] [.bl [fv] 0,.bl [qR a] 0]]) (cap:=[.ptr dQ 0]) (i2 _ _ fu fC (Yy a ((rem.flatMap fun a=>(hL b y).map (iT a))++rest) (bp a g8)) [] K ⟨fun z bO=>by rw [d7] at bO;exact bO,by rw [d7];exact ay⟩);rw [ae.bJ] at vG;unfold ae.cells;rw [ad];unfold ae.cells at vG
     repeat (first
      | refine af.m7 I dQ al ah mixed C ?_
      | with_reducible apply af.seq
      | with_reducible apply cg
      | with_reducible apply iP
      | with_reducible apply af.block
      | refine af.hA C ?_
      | refine af.hp C ?_
      | refine e7 C ?_
      | refine af.skip ?_)
     refine kU ?_;refine aS.zn C C C C C C C vG I (az.all _) (fun x aM h=>?_) ?_ ?_
     ·rw [d7]
      rcases h with ⟨_,h⟩|⟨_,h⟩|⟨_,h,_⟩
      ·exact dR.rS _ _ h.2
      ·exact dR.xI _ h
      ·cases h
     ·rintro x aM (⟨⟨⟩,ay⟩|⟨⟨⟩,aA⟩|⟨_,⟨⟩,_⟩) I
      all_goals rw [d7] at I ⊢
      ·refine dS ?_
       exact Fin.bz I C aH (az.all _) (.inl ⟨rfl,fun z bO=>bp z (f9 _ bO),ay.2⟩)
      ·refine dS ?_
       exact Fin.bz I C aH (az.all _) (.inr (.inl ⟨rfl,aA⟩))
     ·rintro x aM (⟨h,_⟩|⟨h,_⟩|⟨v,⟨⟩,aB⟩) I
      ·cases h
      ·cases h
      rw [d7] at I ⊢;exact Fin.e1 I aH (az.all _) (.inr (.inr ⟨_,rfl,aB⟩))
    have xJ:=df.ey (first:=[]) (args:=[x.bh,.bool b,.func 348 [] [.ptr dQ 0,.bl f.cells 0,.bl [.bool b] 0,.bl [fv] 0]]) (cap:=[.ptr dQ 0]) (i1 _ _ fu fC Yz [] K ⟨fun z bO=>by rw [d7] at bO;exact bO,by rw [d7];exact ep⟩);rw [ae.bJ] at xJ;unfold ae.cells at xJ;rw [ad] at xJ mv ⊢;refine cX ?_;refine ab.h0 I C C C C C vD (fun rT I=>?_);refine ab.im I 6 rT C .here (fun I=>?_);refine bd ?_;refine af.cond C (fun h=>by rw [cx] at h;cases h) (fun _=>?_);refine cl ?_;refine af.cond C (fun h=>by rw [cE] at h;cases h) (fun _=>?_);refine c1 ?_;refine af.cond C (fun h=>by rw [dz] at h;cases h) (fun _=>?_)
    repeat (first
     | refine af.m7 I dQ al ah mixed C ?_
     | with_reducible apply af.seq
     | with_reducible apply cg
     | with_reducible apply iP
     | with_reducible apply af.block
     | refine af.hA C ?_
     | refine af.hp C ?_
     | refine e7 C ?_
     | refine af.skip ?_)
    refine kU ?_;refine aS.zn C C C C C C C xJ I (az.all _) (fun x aM h=>?_) ?_ ?_
    ·rw [d7]
     rcases h with ⟨_,h⟩|⟨_,h⟩|⟨_,h,_⟩
     ·exact dR.rS _ _ h.2
     ·exact dR.xI _ h
     ·cases h
    ·rintro x aM (⟨⟨⟩,ay⟩|⟨⟨⟩,aA⟩|⟨_,⟨⟩,_⟩) I
     all_goals rw [d7] at I ⊢
     ·refine dS ?_
      exact Fin.bz I C aH (az.all _) (.inl ⟨rfl,ay.2⟩)
     ·refine dS ?_
      exact Fin.bz I C aH (az.all _) (.inr (.inl ⟨rfl,aA⟩))
    ·rintro x aM (⟨h,_⟩|⟨h,_⟩|⟨v,⟨⟩,aB⟩) I
     ·cases h
     ·cases h
     rw [d7] at I ⊢;exact Fin.e1 I aH (az.all _) (.inr (.inr ⟨_,rfl,aB⟩))
def sZ (k:IntKind) (xs:List Int):Value := .agg (xs.map (Value.int k)).toArray
def m8 (k:IntKind) (xs:List Int):ag := .agg (xs.map (ag.int k))
structure xL (P:Program) (ei:TypeId) (k:IntKind) (n:Nat):Prop where
 wide:(match P.underlying ei with|some (.array _ _)|some (.struct _)=>true|_=>false)=true
 check:∀ e xs,xs.length=n→∀ w,(Instr.checkKey e 10000 ei (sZ k xs)).run P w = .ok () w
 eq:∀ xs ys,xs.length=n→ys.length=n→∀ w,(Op.equal ei (sZ k xs) (sZ k ys)).run P w = .ok (xs==ys) w
theorem Ic {w:World} {p:bV} {k:IntKind} {v:Value}:∀ {xs:List Int},Rel w p v (m8 k xs)→v=sZ k xs:=by
 intro xs h;cases h with
 | agg cs _ aC=>
 have:∀ {l:List Value} {xs:List Int},b4 w p l (xs.map (ag.int k))→l=xs.map (Value.int k):=by
  intro l
  induction l with
  | nil=>intro xs h;cases xs with|nil=>rfl|cons x r=>cases h
  | cons v l a8=>
   intro xs h;cases xs with
   | nil=>cases h
   | cons x r=>
    cases h with
    | cons _ _ _ _ U ad=>
    cases U;rw [a8 ad];rfl
 unfold sZ;rw [← this aC]
def jE (k:IntKind) (l:List (List Int×ag)):List (ag×ag):=l.map fun e=>(m8 k e.1,e.2)
theorem NY {P:Program} {ei:TypeId} {k:IntKind} {n:Nat} (iu:xL P ei k n) {w:World} {p:bV} {xs:List Int} (aa:xs.length=n):∀ (cr:List MapEntry) (l:List (List Int×ag)) (i:Nat),
  l6 w p cr (jE k l)→(∀ e∈l,e.1.length=n) →
  match l.find? (fun e=>e.1==xs) with
  | none=>(Instr.findAsking ei (sZ k xs) cr i).run P w = .ok none w
  | some e=>∃ j val,(Instr.findAsking ei (sZ k xs) cr i).run P w = .ok (some (j,val)) w∧Rel w p val e.2:=by
 intro cr
 induction cr with
 | nil=>
  intro l i aC aE;cases l with
  | nil=>rfl
  | cons e r=>exact absurd aC.1.length (by simp only [jE,ai2,aj5,i9,ai9];omega)
 | cons m cr a8=>
  intro l i aC aE;cases l with
  | nil=>exact absurd aC.1.length (by simp only [jE,ai2,aj5,i9,ai9];omega)
  | cons e r=>
   obtain ⟨yP,qu⟩:=aC;simp only [jE,ai2] at yP qu;cases yP with|cons _ _ _ _ ax oR=>cases qu with|cons _ _ _ _ aD lg=>
   have he:=Ic ax;have bf:=iu.eq xs e.1 aa (aE e g8) w;rw [← he] at bf;have aw:(xs==e.1)=(e.1==xs):=by rw [aj3,ao7,ao7];exact ⟨fun h=>h.symm,fun h=>h.symm⟩
   rw [aw] at bf;rw [List.find?_cons];cases aq:e.1==xs with
   | true=>
    rw [aq] at bf;simp only;refine ⟨i,m.val,?_,aD⟩;unfold Instr.findAsking;simp only [H1,bf,i0];rfl
   | false=>
    rw [aq] at bf;simp only;have:=a8 r (i+1) ⟨oR,lg⟩ (fun e he=>aE e (f9 _ he));have xi:(Instr.findAsking ei (sZ k xs) (m::cr) i).run P w=(Instr.findAsking ei (sZ k xs) cr (i+1)).run P w:=by
     conv=>lhs;unfold Instr.findAsking
     simp only [H1,bf,i0];rfl
    rw [xi];exact this
section
variable {P:Program} {Γ:cz} {N:Nat} {env:Env} {s:ao} {o:Oper} {d:Nat} {ops:Array Oper} {rest:List Oper} {Q:b8→Env→ao→Prop} {L R:a6} {l:List Oper} {i:Nat} {J:ao→Prop}
theorem aX.Eh (aP:bX P Γ) {t ei fy:TypeId} {x y:Operand} {ok:Bool} {it aJ:bQ} {b n:Nat} {k:IntKind} {es:List (List Int×ag)} {xs:List Int} {z:ag} (iu:xL P ei k n) (ai:o.op = .lookup t x y ok)
  (aN:Γ.get? t=some it) (bw:it.bN = .map ei fy) (bP:Γ.get? fy=some aJ) (aa:aL env x=some (.map b)) (ar:aL env y=some (m8 k xs)) (av:xs.length=n) (eg:∀ e∈es,e.1.length=n)
  (al:s b=some (.map (jE k es))) (bO:ij aJ.zero=some z) {X:ag→ao→Prop} :
  aX P N o env s (fun x an=>x=oS ok z ((es.find? fun e=>e.1==xs).map (·.2))∧an=s) X:=by
 refine aX.jZ hZ fun ro B a w p aI=>?_
 obtain ⟨info,tX,U,ad,aj,-⟩:=aP.parts aN;obtain ⟨jv,j0,AO,GM,U1,-,-,GN⟩:=aP.parts bP;have aA:tX = .map ei fy:=by rw [bw] at aj;cases tX<;>simp [ec] at aj;rw [aj.1,aj.2]
 subst aA;have aC:=aI.aL aa;have kO:=Ic (aI.aL ar);generalize dM:a.eval x=dy at aC;cases aC;have GO:(zeroValue fy).run P w = .ok aJ.zero w:=by simp [zeroValue,typeInfo,AO,GN]
 obtain ⟨cr,clock,g1,g2,-⟩:=aI.wf.obj _ _ al;have aZ:=NY iu av cr.toList es 0 g2 eg;have GP:∃ val,(Instr.lookup t (.map (some b)) (a.eval y) ok).run P w = .ok val w∧Rel w p val (oS ok z ((es.find? fun e=>e.1==xs).map (·.2))):=by
  unfold Instr.lookup;rw [kO];simp only [H1,run_underlying ad,i0,qw g1 C,ai5,iu.check _ xs av,run_findKey_eq w iu.wide];cases kl:es.find? fun e=>e.1==xs with
  | none=>
   rw [kl] at aZ;simp only at aZ;simp only [aZ,i0,H1,GO,ai5,oS,aq2];cases ok
   ·exact ⟨_,rfl,rn bO⟩
   ·exact ⟨_,rfl,.bW _ _ (.cons _ _ _ _ (rn bO) (.cons _ _ _ _ (.bool _) .nil))⟩
  | some e=>
   rw [kl] at aZ;obtain ⟨j,val,dF,c8⟩:=aZ;simp only [dF,i0,ai5,oS,an8];cases ok
   ·exact ⟨_,rfl,c8⟩
   ·exact ⟨_,rfl,.bW _ _ (.cons _ _ _ _ c8 (.cons _ _ _ _ (.bool _) .nil))⟩
 obtain ⟨val,cI,eG⟩:=GP;refine ⟨val,w,s,p,_,?_,.refl w p,.refl s w p,aI.wf,⟨rfl,rfl⟩,eG⟩;unfold execOp;rw [ai];simp only [dM];exact gb cI
theorem aX.Ei (aP:bX P Γ) {t ei fy:TypeId} {x y z:Operand} {it:bQ} {b n:Nat} {k:IntKind} {es:List (List Int×ag)} {xs:List Int} {v:ag} (iu:xL P ei k n) (ai:o.op = .mapUpdate t x y z∨o.op = .insert t x y z)
  (aN:Γ.get? t=some it) (bw:it.bN = .map ei fy) (aa:aL env x=some (.map b)) (ar:aL env y=some (m8 k xs)) (bO:aL env z=some v) (av:xs.length=n) (eg:∀ e∈es,e.1.length=n)
  (al:s b=some (.map (jE k es))) (AP:es.find? (fun e=>e.1==xs)=none) {X:ag→ao→Prop} :
  aX P N o env s (fun _ an=>an=s.set b (.map (jE k (es++[(xs,v)])))) X:=by
 refine aX.GK (by rcases ai with ai|ai<;>simp [gS,ai]) fun ro B a w p aI=>?_
 obtain ⟨info,tX,U,ad,aj,-⟩:=aP.parts aN;have aA:tX = .map ei fy:=by rw [bw] at aj;cases tX<;>simp [ec] at aj;rw [aj.1,aj.2]
 subst aA;have aC:=aI.aL aa;have NZ:=aI.aL ar;have kO:=Ic NZ;have GR:=aI.aL bO;obtain ⟨cr,clock,g1,g2,g3,g4⟩:=aI.wf.obj _ _ al;generalize dM:a.eval x=dy at aC;cases aC;have aZ:=NY iu av cr.toList es 0 g2 eg;rw [AP] at aZ;simp only at aZ;have cI:(Instr.mapUpdate t (.map (some b)) (a.eval y) (a.eval z)).run P w = .ok () { w with heap:=w.heap.setIfInBounds b (.map (cr.push { key:=a.eval y,val:=a.eval z,born:=clock }) (clock+1)) }:=by
  unfold Instr.mapUpdate;rw [kO];simp only [H1,run_underlying ad,i0,qw g1 C,iu.check _ xs av,run_findKey_eq w iu.wide,aZ];simp [setObj,Sem.run,g1]
 have YA:∀ w',(Instr.mapUpdate t (.map (some b)) (a.eval y) (a.eval z)).run P w = .ok () w'→(execOp a.eval o).run P w = .ok .skip w':=by
  intro w' hw;unfold execOp;rcases ai with ai|ai<;>rw [ai]<;>simp only [dM]<;>simp only [H1,hw,i0,ai5]
 have eG:l6 w p (cr.push { key:=a.eval y,val:=a.eval z,born:=clock }).toList (jE k (es++[(xs,v)])):=by
  unfold jE;rw [aw2,t8];exact ⟨by rw [t8,t8];exact g2.1.append (.cons _ _ _ _ NZ .nil),by rw [t8,t8];exact g2.2.append (.cons _ _ _ _ GR .nil)⟩
 obtain ⟨ck,cL,ev⟩:=GQ aI.wf al (mes':=cr.push { key:=a.eval y,val:=a.eval z,born:=clock }) (clock':=clock+1) eG
  (by intro e he;simp only [aw2,ab',i7] at he;rcases he with he|rfl;have:=g3 e he;omega;simp)
  (by
   simp only [aw2,t8,ai2,aj5]
   rw [an']
   refine ⟨g4,by simp,?_⟩
   intro x aa y ar e
   simp only [i7] at ar
   obtain ⟨m,hm,rfl⟩:=ae'.1 aa
   have:=g3 m hm
   omega) _ C
 exact ⟨_,_,p,YA _ cI,ck,cL,ev,rfl⟩
theorem aS.Eh (aP:bX P Γ) (I:Ok s L) {t ei fy:TypeId} {x y:Operand} {N0:Bool} {it aJ:bQ} {b n:Nat} {k:IntKind} {es:List (List Int×ag)} {xs:List Int} {z:ag} (iu:xL P ei k n) (ay:dO l env o) (aA:o.dst=some d) (a1:af' d N=true) (ai:o.op = .lookup t x y N0)
  (aN:Γ.get? t=some it) (bw:it.bN = .map ei fy) (bP:Γ.get? fy=some aJ) (aa:aL (cF l env o) x=some (.map b)) (ar:aL (cF l env o) y=some (m8 k xs)) (av:xs.length=n) (eg:∀ e∈es,e.1.length=n)
  (al:bm L (.own b) (.map (jE k es)) R) (bO:ij aJ.zero=some z)
  (h:aS (fun an=>an=aT s L) P Γ N l (i+1) rest Q ((d,oS N0 z ((es.find? fun e=>e.1==xs).map (·.2)))::env) (aT s L)):aS (fun an=>an=aT s L) P Γ N l i (o::rest) Q env (aT s L):=
 aS.calm ay aA a1 (fun _ e=>by subst e;exact aX.Eh aP iu ai aN bw bP aa ar av eg (al.get I) bO) h
theorem aS.Ei (aP:bX P Γ) (I:Ok s L) {t ei fy:TypeId} {x y z:Operand} {it:bQ} {b n:Nat} {k:IntKind} {es:List (List Int×ag)} {xs:List Int} {v:ag} (iu:xL P ei k n) (ay:dO l env o) (aA:o.dst=none) (lV:m1 l.toArray i=true) (ai:o.op = .mapUpdate t x y z∨o.op = .insert t x y z)
  (aN:Γ.get? t=some it) (bw:it.bN = .map ei fy) (aa:aL (cF l env o) x=some (.map b)) (ar:aL (cF l env o) y=some (m8 k xs)) (bO:aL (cF l env o) z=some v) (av:xs.length=n) (eg:∀ e∈es,e.1.length=n)
  (al:bm L (.own b) (.map (jE k es)) R) (AP:es.find? (fun e=>e.1==xs)=none)
  (h:Ok s ((.own b,.map (jE k (es++[(xs,v)])))::R)→Q .normal env (aT s ((.own b,.map (jE k (es++[(xs,v)])))::R))):aS J P Γ N l i [o] Q env (aT s L):=
 aS.ND ay aA lV (aX.Ei aP iu ai aN bw aa ar bO av eg (al.get I) AP (X:=fun _ _=>False)) (fun x an U=>by
  obtain ⟨bT,bI⟩:=al.put (.map (jE k (es++[(xs,v)]))) I
  rw [U,bT];exact h bI) (fun _ _ h=>h.elim)
end
theorem four {xs:List Int} (h:xs.length=4):∃ a b c d,xs=[a,b,c,d]:=by
 match xs,h with
 | [a,b,c,d],_=>exact ⟨a,b,c,d,rfl⟩
theorem two {xs:List Int} (h:xs.length=2):∃ a b,xs=[a,b]:=by
 match xs,h with
 | [a,b],_=>exact ⟨a,b,rfl⟩
theorem N1 {T e:TypeId} {k:IntKind} {info:TypeInfo} (hu:(d4).underlying T=some (.array 2 e)) (aQ:(d4).info? e=some info) (aw:(d4).cellsOf e=1) (he:(d4).underlying e=some (.int k))
  (aB:∀ (a b:Int) (w:World),(part e #[.int k a,.int k b] 0).run d4 w = .ok (.int k a) w∧(part e #[.int k a,.int k b] 1).run d4 w = .ok (.int k b) w) (d:Nat) (a b dm aW:Int) (w:World) :
  (Op.equalIn (d+2) T (.agg #[.int k a,.int k b]) (.agg #[.int k dm,.int k aW])).run d4 w = .ok ([a,b]==[dm,aW]) w:=by
 rw [show d+2=(d+1)+1 from rfl,run_equalIn_array w _ _ _ hu aQ,aw];have bf:∀ a b:Int,(Op.equalIn (d+1) e (.int k a) (.int k b)).run d4 w = .ok (a==b) w:=fun a b=>run_equalIn_int w d e k k a b he
 simp only [show ak6 2=[0,1] from rfl,Op.eqItems,H1,aB1,Nat.one_mul,(aB a b w).1,(aB a b w).2,(aB dm aW w).1,(aB dm aW w).2,i0,bf];cases U:a==dm<;>cases ad:b==aW<;>simp_all
theorem N2:xL d4 439 .i64 4:=by
 refine ⟨by kernel_rfl,fun e xs aa w=>?_,fun xs ys aa ar w=>?_⟩
 ·obtain ⟨a,b,c,d,rfl⟩:=four aa
  kernel_rfl
 ·obtain ⟨a,b,c,d,rfl⟩:=four aa
  obtain ⟨dm,aW,pX,db,rfl⟩:=four ar;have al:(d4).underlying 439 = some (.struct ((d4).fieldsOf 439)):=by kernel_rfl
  have aB:(d4).stoodInHeld 439 = false:=by kernel_rfl
  have aZ:((d4).fieldsOf 439).toList=[{ name := "arg", type := 3, offset:=0,embedded:=false,tag := "", pkgPath := "consort/fact", byteOffset:=0 },{ name := "many", type := 3, offset:=1,embedded:=false,tag := "", pkgPath := "consort/fact", byteOffset:=8 },{ name := "path", type := 437, offset:=2,embedded:=false,tag := "", pkgPath := "consort/fact", byteOffset:=16 }]:=by kernel_rfl
  have hint:(d4).underlying 3 = some (.int .i64):=by kernel_rfl
  obtain ⟨info,aQ⟩:=info_of_underlying hint;have kD:∀ a b c d:Int,(part 3 #[.int .i64 a,.int .i64 b,.int .i64 c,.int .i64 d] 0).run d4 w = .ok (.int .i64 a) w:=fun a b c d=>by kernel_rfl
  have BD:∀ a b c d:Int,(part 3 #[.int .i64 a,.int .i64 b,.int .i64 c,.int .i64 d] 1).run d4 w = .ok (.int .i64 b) w:=fun a b c d=>by kernel_rfl
  have YB:∀ a b c d:Int,(part 437 #[.int .i64 a,.int .i64 b,.int .i64 c,.int .i64 d] 2).run d4 w = .ok (.agg #[.int .i64 c,.int .i64 d]) w:=fun a b c d=>by kernel_rfl
  have Ie:=N1 (T := 437) (e := 3) (k := .i64) gN aQ gN hint (fun a b w=>⟨by kernel_rfl,by kernel_rfl⟩) 9997 c d pX db w;have aD:∀ a b c d:Int,sZ .i64 [a,b,c,d] = .agg #[.int .i64 a,.int .i64 b,.int .i64 c,.int .i64 d]:=fun _ _ _ _=>rfl
  have bf:∀ a b:Int,(Op.equalIn 9999 3 (.int .i64 a) (.int .i64 b)).run d4 w = .ok (a==b) w:=fun a b=>run_equalIn_int w 9998 3 .i64 .i64 a b hint
  have Ie:(Op.equalIn 9999 437 (.agg #[.int .i64 c,.int .i64 d]) (.agg #[.int .i64 pX,.int .i64 db])).run d4 w = .ok ([c,d]==[pX,db]) w:=Ie;rw [aD,aD];unfold Op.equal;rw [show Op.maxDepth=9999+1 from rfl,run_equalIn_struct w _ _ _ _ al aB,aZ];simp only [Op.eqFields,H1,ne_eq,reduceCtorEq,not_false_eq_true,ak2,kD,BD,YB,i0,bf,Ie];cases U:a==dm<;>cases ad:b==aW<;>cases aj:c==pX<;>cases bk:d==db<;>simp_all
def iV (sp:List Int):ag:=m8 .i64 sp
def ia (w:bo) (mb:Nat):ag := .bl [jT w,.map mb] 0
def k1 (k:dk) (eX bB:ag):List ag:=[.int .i64 k.low,.int .i64 k.high,eX,.int .u64 (k.fR:Int),.int .u64 (k.no:Int),.bool k.whole,.bool k.gx,bB]
def N3:List ag:=k1 jj (.aF 1 [] .nil) (.aF 0 [] .nil)
abbrev SMap:=List (List Int×ag)
def gg (mb:Nat) (es:SMap):bM×ds:=(.own mb,.map (jE .i64 es))
theorem N4 (Ig pc:ag) (zo:aR (.aF 0 [] .nil) Ig) (wX:aR (.aF 0 [] .nil) pc) (w:bo) (mb:Nat) (es:SMap) (eg:∀ e∈es,e.1.length=4) (hN dF c8 du:Int):bs d4 401 [ia w mb,iV [hN,dF,c8,du]] ([gg mb es]) (fun o K=>(∃ e,es.find? (fun e=>e.1==[hN,dF,c8,du])=some e∧o = .ret e.2∧K=[gg mb es])∨(es.find? (fun e=>e.1==[hN,dF,c8,du])=none∧∃ m9,o = .ret (.ptr m9 0)∧K=[gg mb (es++[([hN,dF,c8,du],.ptr m9 0)]),(.own m9,.box 452 (k1 jj Ig pc))])):=by
 have aq:=bx;refine bs.bj ah Tryz.func401 C C fun s I=>?_
 unfold gg at I ⊢;unfold ia;unfold jT gf
 repeat (first|(refine sM ?_)|refine ab.h0 I C C C C C C (fun b I=>?_)|(refine WH I ?_;clear I;intro I))
 refine aS.Eh (xs:=[hN,dF,c8,du]) ah I N2 C C C C C C C C C C eg aO C ?_;cases aZ:es.find? (fun e=>e.1==[hN,dF,c8,du]) with
 | some e=>
  simp only [an8];refine c1 ?_;exact Fin.bz I C aH a' (.inl ⟨e,rfl,rfl,rfl⟩)
 | none=>
  simp only [aq2]
  repeat (first
   | refine aS.step C ?_
   | refine aS.nil ?_)
  repeat (first|(refine sM ?_)|refine ab.h0 I C C C C C C (fun b I=>?_)|(refine WI ?_))
  refine af.A6 I b (k1 jj Ig pc) .here (.cons aH (.cons aH (.cons zo (.cons aH (.cons aH (.cons aH (.cons aH (.one wX)))))))) (fun I=>?_);refine Hr I ?_;intro I;refine aS.Ei (xs:=[hN,dF,c8,du]) ah I N2 C C C (.inl C) C C C C C C eg aO aZ (fun I=>?_);refine nM ?_;exact Fin.bz I C aH a' (.inr ⟨by first|rfl|trivial,_,rfl,rfl⟩)
theorem N5 (a Ej kD bD:Int):aY d4 402 [iV [a,0,Ej,kD],.int .i64 bD] (iV [a,1,bD,kD]):=by
 have aq:=bx;refine aY.bj ah Tryz.func402 C C fun s I=>?_
 unfold iV m8
 repeat (first|(refine sM ?_)|refine ab.h0 I C C C C C C (fun b I=>?_)|refine ab.c3 ah I C C C C C C C (fun cu I=>?_)|(refine Bc I ?_;clear I;intro I))
 refine ab.arr ah 0 C C C C C C C C C C ak ?_;refine c9 I ?_;intro I;exact Fin.cZ I (iS C C (bm.get aO I) C) aH
theorem N6 (a Ej kD bD:Int):aY d4 402 [iV [a,1,Ej,kD],.int .i64 bD] (iV [a,2,Ej,bD]):=by
 have aq:=bx;refine aY.bj ah Tryz.func402 C C fun s I=>?_
 unfold iV m8
 repeat (first|(refine sM ?_)|refine ab.h0 I C C C C C C (fun b I=>?_)|refine ab.c3 ah I C C C C C C C (fun cu I=>?_)|(refine Bc I ?_;clear I;intro I))
 refine ab.arr ah 1 C C C C C C C C C C ak ?_;refine c9 I ?_;intro I;exact Fin.cZ I (iS C C (bm.get aO I) C) aH
def p3 (kb:Nat) (k:dk) (on:bM) (pc:ag):a6:=[(.own kb,.box 452 (k1 k (.aF 1 (k.eX.map ba) on) pc)),(on,.row 3 1 k.eX.length)]
structure YC (k:dk):Prop where
 fR:k.fR<2^64
 no:k.no<2^64
 eX:k.eX.length<bK
structure ui (w:bo) (x:bG):Prop where
 h2:dU w x.1=true
 leaf:x.1.c7=true
theorem ui.node {w:bo} {x:bG} (h:ui w x):fr w x.1=true:=by
 have:=h.h2;rw [p0,d6] at this;exact this.1
theorem ui.num {w:bo} {x:bG} (h:ui w x) : -1000000000≤x.1.n∧x.1.n≤1000000000:=by
 have U:=h.node;simp only [fr,h.leaf,ak2,d6,f5] at U;have pa:=U.2.2.2.2.2.2.2;split at pa
 ·simp at pa;omega
 ·simp [lr] at pa;omega
theorem de.n {P:Program} {Γ:cz} {N:Nat} {l:List Oper} {Q:b8→Env→ao→Prop} {m:Nat} {env:Env} {s:ao}:de P Γ N l Q m env s []:=trivial
theorem de.c {P:Program} {Γ:cz} {N:Nat} {l:List Oper} {Q:b8→Env→ao→Prop} {m:Nat} {env:Env} {s:ao} {i:Nat} {is:List Nat} (h:fq P Γ N l Q m env s i) (t:de P Γ N l Q m env s is):de P Γ N l Q m env s (i::is):=⟨h,t⟩
theorem YD (w:bo) (hw:w.ps.length≤60) (kb:Nat) (k:dk) (ax:YC k) (cV : -1000000000≤k.low∧k.low≤1000000000 ∧ -1000000001≤k.high∧k.high≤1000000000) (on:bM) (pc:ag) (wX:eZ pc=true) (x:bG) (aa:ui w x):bs d4 403 [.ptr kb 0,et x] (p3 kb k on pc) (fun o K=>o = .ret (.bW [])∧∃ xM,K=p3 kb (k.ask x) xM pc):=by
 have aq:=bx;refine bs.bj ah Tryz.func403 C C fun s I=>?_
 obtain ⟨ck,cL,ev⟩:=ax;have iD:=By.of aa.node aa.leaf;have xN:=aa.num;have mv:=aa.leaf;obtain ⟨f,neg⟩:=x;simp only at iD xN mv;unfold p3 at I ⊢;have cG:f.op=2∨f.op=3∨f.op=4:=by
  unfold ae.c7 at mv;simp at mv;omega
 unfold k1 at I ⊢;unfold et qQ ae.cells;rcases cG with ad|ad|ad
 ·obtain ⟨cx,cE⟩:=iD.cls ad
  obtain ⟨c,aw⟩:∃ c:Nat,f.cls=c:=⟨f.cls.toNat,by omega⟩;have N7:c<64:=by omega
  have oY:=Bw k.no c cL N7;have qx:=Bw k.fR c ck N7;have bp:k.ask (f,neg)=if neg then { k with no:=k.no|||2^c } else { k with fR:=k.fR|||2^c }:=by
   unfold dk.ask;rw [f7 ad,aw,ai7]
  rw [ad,aw];cases neg with
  | true=>
   rw [f7 C] at bp;rw [bp];refine hC I ?_;intro I;exact Fin.bz I C aH a' ⟨rfl,on,rfl⟩
  | false=>
   rw [f4 bc] at bp;rw [bp];refine hC I ?_;intro I;exact Fin.bz I C aH a' ⟨rfl,on,rfl⟩
 ·have bp:k.ask (f,neg)=if neg then { k with low:=max k.low f.n } else { k with high:=min k.high (f.n-1),whole:=true }:=by
   unfold dk.ask;rw [f4 (by simp [ad]),f7 ad]
  rw [ad];cases neg with
  | true=>
   rw [f7 C] at bp;rw [bp];have e:(if f.n>k.low then f.n else k.low)=max k.low f.n:=by omega
   refine hC I ?_;intro I;exact Fin.bz I C aH (by rw [← e];exact a') ⟨rfl,on,rfl⟩
  | false=>
   rw [f4 bc] at bp;rw [bp];have dq:ai' .i64 (f.n-1)=f.n-1:=hf ak ak;have e:(if f.n-1<k.high then f.n-1 else k.high)=min k.high (f.n-1):=by omega
   refine bd ?_;refine af.oW ah mixed C (bb.run C ?_);refine bb.dY 6 ah I C C C C C C C C aO bZ ?_;refine bb.run C ?_;refine bb.pure 11 C C C C C (.x C) ?_;refine bb.run C ?_;refine bb.cC 15 ah I C C C C C C C C C C C aO bZ (fun I=>?_);refine bb.run C ?_;refine bb.cC 18 ah I C C C C C C C C C C C aO bZ (fun I=>?_);refine bb.run C ?_;refine bb.done C ?_;refine eF ?_;have BB:Ok s (p3 kb { k with high:=(if ai' .i64 (f.n-1)<k.high then ai' .i64 (f.n-1) else k.high),whole:=true } on pc):=I;rw [dq,e] at BB;exact Fin.bz (L:=p3 kb { k with high:=(if ai' .i64 (f.n-1)<k.high then ai' .i64 (f.n-1) else k.high),whole:=true } on pc) I C aH (by rw [dq,e];exact az.all _) ⟨rfl,on,rfl⟩
 ·rw [ad]
  cases neg with
  | true=>
   have bp:k.ask (f,true)={ k with eX:=k.eX++[f.n] }:=by
    unfold dk.ask;rw [f4 (by simp [ad]),f4 (by simp [ad]),f7 C]
   rw [bp];refine bd ?_;refine af.oW ah mixed C (bb.run C ?_);refine bb.dY 5 ah I C C C C C C C C aO bZ ?_;refine bb.run C ?_;refine bb.gn 10 ah I C C C C C C C C C dB C C C C C C C C aO h' lP ak (fun BE I=>?_);refine bb.run C ?_;refine bb.cC 14 ah I C C C C C C C C C C C aO bZ (fun I=>?_);refine bb.run C ?_;refine bb.done C ?_;refine eF ?_;have eh:p3 kb { k with eX:=k.eX++[f.n] } (.own BE) pc=[(.own kb,.box 452 [.int .i64 k.low,.int .i64 k.high,.aF 1 (k.eX.map ba++[.int .i64 f.n]) (.own BE),.int .u64 (k.fR:Int),.int .u64 (k.no:Int),.bool k.whole,.bool k.gx,pc]),(.own BE,.row 3 1 (k.eX.length+1))]:=by
    unfold p3 k1;simp [ba]
   exact Fin.bz I C aH (K:=p3 kb { k with eX:=k.eX++[f.n] } (.own BE) pc) (by rw [eh];exact a') ⟨rfl,.own BE,rfl⟩
  | false=>
   have bp:k.ask (f,false)={ k with low:=max k.low f.n,high:=min k.high f.n,whole:=true }:=by
    unfold dk.ask;rw [f4 (by simp [ad]),f4 (by simp [ad]),f4 bc]
   rw [bp];have bT:(if f.n>k.low then f.n else k.low)=max k.low f.n:=by omega
   have bI:(if f.n<k.high then f.n else k.high)=min k.high f.n:=by omega
   refine bd ?_;refine af.oW ah mixed C (bb.run C ?_);refine bb.many C (de.c (fq.mk (i:=7) C C C C (aX.dY ah I C C C aO C (X:=fun _ _=>False)) ?_ (fun _ _ h=>False.elim h)) (de.c (fq.mk (i:=16) C C C C (aX.dY ah I C C C aO C (X:=fun _ _=>False)) ?_ (fun _ _ h=>False.elim h)) de.n))
   ·rintro _ _ ⟨rfl,rfl⟩
    refine bb.pure 11 C C C C C (.x C) ?_;refine bb.run C ?_;refine bb.many C (de.c (fq.mk (i:=16) C C C C (aX.dY ah I C C C aO C (X:=fun _ _=>False)) ?_ (fun _ _ h=>False.elim h)) de.n)
    ·rintro _ _ ⟨rfl,rfl⟩
     refine bb.pure 20 C C C C C (.x C) ?_;refine bb.run C ?_;refine bb.cC 24 ah I C C C C C C C C C C C aO bZ (fun I=>?_);refine bb.run C ?_;refine bb.cC 28 ah I C C C C C C C C C C C aO bZ (fun I=>?_);refine bb.run C ?_;refine bb.cC 31 ah I C C C C C C C C C C C aO bZ (fun I=>?_);refine bb.run C ?_;refine bb.done C ?_;refine eF ?_;exact Fin.bz I C aH (by rw [← bT,← bI];exact a') ⟨rfl,on,rfl⟩
   ·rintro _ _ ⟨rfl,rfl⟩
    refine bb.pure 20 C C C C C (.x C) ?_;refine bb.run C ?_;refine bb.many C (de.c (fq.mk (i:=7) C C C C (aX.dY ah I C C C aO C (X:=fun _ _=>False)) ?_ (fun _ _ h=>False.elim h)) de.n)
    ·rintro _ _ ⟨rfl,rfl⟩
     refine bb.pure 11 C C C C C (.x C) ?_;refine bb.run C ?_;refine bb.cC 24 ah I C C C C C C C C C C C aO bZ (fun I=>?_);refine bb.run C ?_;refine bb.cC 28 ah I C C C C C C C C C C C aO bZ (fun I=>?_);refine bb.run C ?_;refine bb.cC 31 ah I C C C C C C C C C C C aO bZ (fun I=>?_);refine bb.run C ?_;refine bb.done C ?_;refine eF ?_;exact Fin.bz I C aH (by rw [← bT,← bI];exact a') ⟨rfl,on,rfl⟩
open Go.Shelf Go.Sort Go.Proofs
def YE:Go.Shelf.Ren:=⟨fun|189=>294|125=>336|257=>335|128=>375|129=>376|294=>366|295=>367|296=>368|297=>369|298=>370|299=>371|216=>372|300=>373|301=>374|328=>391|329=>392|330=>393|331=>394|332=>395|215=>396|343=>408|n=>n,fun|28=>23|3=>3|46=>247|0=>0|51=>300|53=>303|4=>4|183=>421|182=>420|131=>289|5=>5|9=>9|218=>441|222=>367|228=>459|229=>460|n=>n,fun n=>n⟩
theorem YF:Lays.n189 d4 YE where
 mixed:=by kernel_rfl
 f125 := Tryz.func336.trans (ak5 some gN)
 f128 := Tryz.func375.trans (ak5 some gN)
 f129 := Tryz.func376.trans (ak5 some gN)
 f189 := Tryz.func294.trans (ak5 some gN)
 f215 := Tryz.func396.trans (ak5 some gN)
 f216 := Tryz.func372.trans (ak5 some gN)
 f257 := Tryz.func335.trans (ak5 some gN)
 f294 := Tryz.func366.trans (ak5 some gN)
 f295 := Tryz.func367.trans (ak5 some gN)
 f296 := Tryz.func368.trans (ak5 some gN)
 f297 := Tryz.func369.trans (ak5 some gN)
 f298 := Tryz.func370.trans (ak5 some gN)
 f299 := Tryz.func371.trans (ak5 some gN)
 f300 := Tryz.func373.trans (ak5 some gN)
 f301 := Tryz.func374.trans (ak5 some gN)
 f328 := Tryz.func391.trans (ak5 some gN)
 f329 := Tryz.func392.trans (ak5 some gN)
 f330 := Tryz.func393.trans (ak5 some gN)
 f331 := Tryz.func394.trans (ak5 some gN)
 f332 := Tryz.func395.trans (ak5 some gN)
 f343 := Tryz.func408.trans (ak5 some gN)
 t0 := Tryz.underlying0
 a0 := Tryz.isAgg0
 z0 := Tryz.sizeOf0
 v0 := Tryz.zeroValue0
 t3 := Tryz.underlying3
 a3 := Tryz.isAgg3
 z3 := Tryz.sizeOf3
 v3 := Tryz.zeroValue3
 t4 := Tryz.underlying4
 a4 := Tryz.isAgg4
 z4 := Tryz.sizeOf4
 v4 := Tryz.zeroValue4
 t5 := Tryz.underlying5
 a5 := Tryz.isAgg5
 z5 := Tryz.sizeOf5
 v5 := Tryz.zeroValue5
 t9 := Tryz.underlying9
 a9 := Tryz.isAgg9
 z9 := Tryz.sizeOf9
 v9 := Tryz.zeroValue9
 t28 := Tryz.underlying23
 a28 := Tryz.isAgg23
 z28 := Tryz.sizeOf23
 v28 := Tryz.zeroValue23
 t46 := Tryz.underlying247
 a46 := Tryz.isAgg247
 z46 := Tryz.sizeOf247
 v46 := Tryz.zeroValue247
 t51 := Tryz.underlying300
 a51 := Tryz.isAgg300
 z51 := Tryz.sizeOf300
 v51 := Tryz.zeroValue300
 t53 := Tryz.underlying303
 a53 := Tryz.isAgg303
 z53 := Tryz.sizeOf303
 v53 := Tryz.zeroValue303
 t131 := Tryz.underlying289
 a131 := Tryz.isAgg289
 z131 := Tryz.sizeOf289
 v131 := Tryz.zeroValue289
 t182 := Tryz.underlying420
 a182 := Tryz.isAgg420
 z182 := Tryz.sizeOf420
 v182 := Tryz.zeroValue420
 t183 := Tryz.underlying421
 a183 := Tryz.isAgg421
 z183 := Tryz.sizeOf421
 v183 := Tryz.zeroValue421
 t218 := Tryz.underlying441
 a218 := Tryz.isAgg441
 z218 := Tryz.sizeOf441
 v218 := Tryz.zeroValue441
 t222 := Tryz.underlying367
 a222 := Tryz.isAgg367
 z222 := Tryz.sizeOf367
 v222 := Tryz.zeroValue367
 t228 := Tryz.underlying459
 a228 := Tryz.isAgg459
 z228 := Tryz.sizeOf459
 v228 := Tryz.zeroValue459
 t229 := Tryz.underlying460
 a229 := Tryz.isAgg460
 z229 := Tryz.sizeOf460
 v229 := Tryz.zeroValue460
theorem YG (kW off cap:Nat) (aO:List Int) (w:World) (lQ:Holds (Value.int .i64) w kW off aO.toArray) (N8:kW<w.heap.size) (b6:aO.length<4611686018427387904) :
  Calls d4 294 #[.slice (some ⟨kW,off,none⟩) aO.length cap] w fun e w'=>
   e = .returned (.tuple #[])∧∃ n os,w'=grow (putRow (Value.int .i64) (Sort.ahead w n) kW off (aO.mergeSort fun x y=>decide (x≤y)).toArray) os:=
 Any.slices_Sort_int YF kW off cap aO w lQ N8 b6
theorem N9 (w:World) (p:bV) (v:Value) (a:Int) (h:Rel w p v (.int .i64 a)):v = .int .i64 a:=by cases h;rfl
theorem Ek (b cap:Nat) (l:List Int) (rest:List ag) (aE:l.length<4611686018427387904) :
  bs d4 294 [dv b l.length cap] [(.own b,.box 3 (l.map ba++rest))] (fun o K=>o = .ret (.bW [])∧K=[(.own b,.box 3 ((l.mergeSort fun x y=>decide (x≤y)).map ba++rest))]):=
 bs.sort (α:=Int) (enc:=Value.int .i64) (encA:=ba) (le:=fun x y=>decide (x≤y)) call294 N9 (fun w p a => .int _ _) YG b cap l rest aE
end Go.Proofs.YtimbpjfhekcofaaGreat
