import Derived.Test.YtnafpeohfbglmaaGreatSc
import Derived.Shelf.Sort.Plain
import Derived.KernelRfl
import Derived.WalkKit
import Derived.Defers
import Derived.Recover
import Derived.Laws.MakeOwn
import Derived.Laws.CopyRow
set_option linter.unusedVariables false
set_option linter.unusedSimpArgs false
set_option maxRecDepth 100000
set_option maxHeartbeats 4000000
open Array renaming ext_getElem?→aw7,getElem?_eq_some_iff→i9,getElem?_modify→ao8,getElem?_toList→au9,length_toList→ae9,replicate→al5
open BitVec renaming ofInt→ak4,ofNat→aA',toNat_and→ax9,toNat_ofNat→al3,toNat_or→aC3
open Bool renaming and_eq_true→f8,and_false→ak8,eq_false_iff→ah4,eq_iff_iff→af7,false_and→f9,not_false→aj3,not_true→ak2,or_assoc→ar8,or_eq_true→aj1,or_false→am3,true_and→f5
open Int renaming le_refl→ak9,sub_zero→aE1,toNat_natCast→ae1
open Go.IntKind renaming bits→am7,signed→az0,wrap→t7
open List renaming any_eq_true→ag4,append_assoc→ah0,append_nil→d6,cons_append→aa',cons_beq_cons→aw4,contains_iff_mem→ah8,drop_zero→am6,findIdx?_eq_none_iff→ai2,findIdx?_eq_some_iff_getElem→ah3,getD_eq_getElem?_getD→d7,getElem?_append_left→ag0,getElem?_append_right→af4,getElem?_eq_getElem→f7,getElem?_eq_some_iff→ae2,getElem?_map→ae4,getElem?_of_mem→ai0,getElem?_replicate→ar6,getElem?_take→ai4,getElem_mem→an6,isEmpty→ap',length_append→f6,length_cons→g9,length_drop→ai1,length_filter_le→aj2,length_map→d9,length_replicate→af3,length_singleton→ag8,length_take_le'→al0,length_take→ae8,map_append→ad',map_cons→ae3,map_take→ar7,mem_append→ae',mem_cons_of_mem→i0,mem_cons_self→i6,mem_cons→af2,mem_filter→ah6,mem_map→af',mem_of_getElem?→d5,mem_replicate→as1,mem_singleton→H1,nil_append→d8,replicate→t6,size_toArray→an1,take_add_one→am2,take_append_drop→ai9,take_append_of_le_length→ai7,take_length→ae5,take_of_length_le→ag9,take_zero→al4
open Nat renaming and_le_left→av3,beq→af0,blt→t8,eq_of_beq_eq_true→ae0,eq_of_testBit_eq→an7,le_add_right→aB6,le_refl→g8,le_trans→am',lt_of_le_of_lt→ak1,lt_of_lt_of_le→al2,lt_or_ge→aq',lt_succ_iff_lt_or_eq→ah5,lt_succ_self→aj6,min_eq_left→am8,mod_eq_of_lt→am0,mul_le_mul_right→am9,mul_one→ag',not_lt_zero→an2,or_lt_two_pow→aj4,pow_le_pow_right→ag2,pow_lt_pow_right→ai',sub_self→ap9,sub_zero→av0,testBit_and→al9,testBit_lt_two_pow→an0,testBit_or→am4,testBit_two_pow_sub_one→ai3,testBit_two_pow→al7,zero_add→af5,zero_le→g7
open Option renaming getD_some→af9,map_some→ao9
open Go.Result renaming andThen_ok→i5
open Go.Sem renaming runT_eq→au7,run_bind→ac',run_pure→ae6
open Go.Proofs.Tryz renaming prog→d0
namespace Go.Proofs.YtnafpeohfbglmaaGreat
theorem GW {p:Prop} (h:p:=by rw [bq];exact (by simp only [List.length_map,List.length_nil];exact aX)):p:=h
theorem yK {p:Prop} (h:p:=by repeat (first|exact trivial|refine ⟨⟨_,rfl,aJ⟩,?_⟩|refine ⟨⟨_,rfl,aQ.of_eq (by (first|rw [h7 (by omega)]|(rw [List.map_append];rfl)))⟩,?_⟩)):p:=h
theorem kM {p:Prop} (h:p:=by repeat (first|exact trivial|refine ⟨⟨_,rfl,aJ⟩,?_⟩|refine ⟨⟨_,rfl,aQ.of_eq (by (first|rw [h7 (by omega)]|rw [ar]))⟩,?_⟩)):p:=h
theorem AL {p:Prop} (h:p:=by repeat (first|exact trivial|refine ⟨⟨_,rfl,aJ⟩,?_⟩|refine ⟨⟨_,rfl,aQ.of_eq (by simp)⟩,?_⟩)):p:=h
theorem GX {p:Prop} (h:p:=by show aG _ [(_,.row _ _ (xs (j+1)).length)] _;rw [cR];exact aG.cons bo.here .nil):p:=h
theorem DH {p:Prop} (h:p:=by (rw [dz (by omega) (by omega)];push_cast;rfl)):p:=h
theorem GY {p:Prop} (h:p:=by rw [dz (by omega) (by omega)];omega):p:=h
theorem GZ {p:Prop} (h:p:=by (rw [dz (by omega) (by omega)];rfl)):p:=h
theorem G0 {p:Prop} (h:p:=by show cur.length-(i+1)<cur.length-i;omega):p:=h
theorem G1 {p:Prop} (h:p:=by show 2+g.length-(j+1)<2+g.length-j;omega):p:=h
theorem sl {p:Prop} (h:p:=by show xs.length-(j+1)<xs.length-j;omega):p:=h
theorem AM {p:Prop} (h:p:=by show g.length-(j+1)<g.length-j;omega):p:=h
theorem DI {p:Prop} (h:p:=by show a.length-(j+1)<a.length-j;omega):p:=h
theorem uZ {p:Prop} (h:p:=by rw [List.length_replicate];omega):p:=h
theorem pE {p:Prop} (h:p:=by show (_+1)*24≤_;omega):p:=h
theorem jS {p:Prop} (h:p:=by show (_+1)*8≤_;omega):p:=h
theorem gN {p:Prop} (h:p:=by intro b h;cases h):p:=h
theorem wU {p:Prop} (h:p:=by simpa using U):p:=h
theorem di {p:Prop} (h:p:=by intro k;simp):p:=h
theorem gY {p:Prop} (h:p:=by simp<;>omega):p:=h
theorem du {p:Prop} (h:p:=by decide):p:=h
def ee (b n cap:Nat):ag := .hG (.slice (some ⟨b,0,none⟩) n cap)
theorem bH.AN {w:World} {p:bV}:∀ vs:List Value,bH w p vs (vs.map fun _ => .any)
 | [] => .nil
 | v::vs => .cons v .any vs _ (.any v) (bH.AN vs)
theorem AO {v:Value} (h:v.oneCell'=true):v.cells = #[v]:=by
 cases v<;>first|rfl|(simp [Value.oneCell'] at h;done)
theorem tD:∀ {vs:List Value},(∀ v∈vs,v.oneCell'=true)→flat vs=vs
  | [],_=>rfl
  | v::vs,h=>by
    have U:=tD (vs:=vs) fun u hu=>h u (i0 _ hu)
    unfold flat at U ⊢;rw [List.flatMap_cons,U,AO (h v i6)];rfl
section
variable {P:Program} {Γ:cA} {N:Nat} {ops:Array Oper} {Q:b9→Env→ao→Prop} {env:Env} {s:ao} {l:List Oper} {o:Oper} {d:Nat} {L R:a'}
def Grown (s:ao) (R:a') (e:TypeId) (n:Nat) (xs:List ag) (r:ag) (aj:ao):Prop:=
 ∃ aY cg cs',r=ee aY n cg∧aj=aS s ((.own aY,.box e cs')::R)∧Ok s ((.own aY,.box e cs')::R)∧cs'.length=cg∧n≤cg∧cs'.take n=xs
theorem LH (aP:bQ P Γ) {w:World} {p:bV} {S:ao} (cf:dx w p S) {t bI e ty:TypeId} {it cz aH:bO} {bY:Nat} {olds:List Value} {xs:List ag} {v:ag} {dr:bN} {base:Option Addr} {n cap:Nat} {rq:Value}
  (aN:Γ.get? t=some it) (bt:it.bF = .aA e) (c0:Γ.get? bI=some cz) (dy:∀ k,cz.bF ≠ .int k) (bJ:Γ.get? e=some aH) (U:aH.size=1) (dS:af0 aH.zero.cells.size aH.size=true)
  (aD:bH w p olds xs) (az:n=xs.length) (k4:(Builtin.firstCells 1 n (.slice base n cap)).run P w.drew = .ok olds.toArray w.drew) (ay:Rel w p rq (.aA bY [v] dr)) (de:bY=1) (dC:fe v=true)
  (au:cap<n+1) (an:(n+1)*aH.bytes≤140737488355328) (ek:n+1≤9223372036854775807) :
  ∃ aY cg cs' w',(Builtin.append_ #[t,bI] ty #[.slice base n cap,rq]).run P w = .ok (.slice (some ⟨aY,0,none⟩) (n+1) cg) w'∧S aY=none∧dg w p w' p∧Kept S (S.set aY (.box e cs')) w p w' p∧dx w' p (S.set aY (.box e cs')) ∧
   cs'.length=cg∧n+1≤cg∧cs'.take (n+1)=xs++[v]:=by
 obtain ⟨info,d,g1,g2,g3,-⟩:=aP.parts aN;obtain ⟨mZ,c9,ea,dj,dQ,-⟩:=aP.parts c0;obtain ⟨j1,kC,cE,dq,fl,eK,j2,jz⟩:=aP.parts bJ;have ax:d = .slice e:=by rw [bt] at g3;cases d<;>simp [eB] at g3;rw [g3]
 subst ax;have cp:∀ k,c9 ≠ .int k:=fun k e'=>by subst e';exact dy k dQ.symm
 obtain ⟨us,iv,qb,j3,kn,tm,tn,tp⟩:=q9 ay (.inr de);have m8:=iv.length;cases iv with
 | cons u _ wo _ hu wV=>
 cases wV;subst de;have tE:flat [u]=[u]:=tD (by intro x ab;rw [H1] at ab;subst ab;exact Gc hu dC);have fr:=growslice_fits (need:=n+1) (old:=cap) (bytes:=aH.bytes) au an;have cS:=An (ty:=ty) w g2 dj cp cE jz (base:=base) (sLen:=n) (sCap:=cap) (m:=1) (olds:=olds) (news:=[u]) (j3 P)
  (by rw [eK,U];exact k4) (by rw [eK,U,← tE];exact kn P w.drew (fun _ _ _=>rfl)) au af (by rw [j2];exact fr)
 have nP:n+1≤grownCap w (n+1) cap e:=by simp [grownCap,Question.cut]
 have fZ:olds.length=n:=by rw [aD.length,az]
 have pq:=ae0 dS;generalize tl:(Builtin.zeroCells aH.zero.cells (grownCap w (n+1) cap e-(n+1))).toList=aW at cS;have m9:aW.length=grownCap w (n+1) cap e-(n+1):=by
  rw [← tl,ae9];simp [Builtin.zeroCells,pq,U]
 generalize grownCap w (n+1) cap e=G at cS nP m9;have wW:=yp cf
 obtain ⟨ar,hle,aE,k7⟩:=r9 wW (.cells (olds++[u]++aW).toArray e (0,0)) (.box e (xs++[v]++aW.map fun _ => .any)) (fun w' iS aw fC=>⟨_,iS,by
  refine bH.append (bH.append (fC _ _ (show bH w.drew p olds xs from aD.mono k3)) (fC _ _ (.cons _ _ _ _ (hu.mono k3) .nil))) (bH.AN aW),fun o aF=>absurd (cf.lt _ _ aF) (by show ¬ w.heap.size<w.heap.size;omega)⟩)
 rw [show w.drew.heap.size=w.heap.size from rfl] at ar aE k7;refine ⟨w.heap.size,G,xs++[v]++aW.map (fun _=>ag.any),_,cS,ar,k3.trans hle,(v' (w:=w) (p:=p)).trans (k3 (w:=w) (p:=p)).size aE,k7,?_,nP,?_⟩
 ·simp only [f6,d9,ag8,m9];omega
 ·rw [ai7 cV,ag9 cV]
theorem u0 {t bI:TypeId} {x y:Operand} {a:Act} {val:Value} {w w':World} (ai:o.op = .call { callee := .builtin .append,args := #[x,y],argTypes := #[t,bI] }) (h:(Builtin.append_ #[t,bI] o.type #[a.eval x,a.eval y]).run P w = .ok val w') :
  (execOp a.eval o).run P w = .ok (.value val) w':=by
 unfold execOp;rw [ai];simp only [resolve,invoke,builtin,ac',ae6,i5,List.map_toArray,ae3,List.map_nil,h]
theorem aZ.DJ (aP:bQ P Γ) (I:Ok s L) {t bI e:TypeId} {x y:Operand} {it cz aH:bO} {dX bY:Nat} {v:ag} {dr:bN}
  (ai:o.op = .call { callee := .builtin .append,args := #[x,y],argTypes := #[t,bI] }) (aN:Γ.get? t=some it) (bt:it.bF = .aA e) (c0:Γ.get? bI=some cz) (dy:∀ k,cz.bF ≠ .int k)
  (bJ:Γ.get? e=some aH) (U:aH.size=1) (dS:af0 aH.zero.cells.size aH.size=true) (ab:aM env x=some (.aA dX [] .nil)) (ay:aM env y=some (.aA bY [v] dr)) (de:bY=1) (dC:fe v=true) (an:1*aH.bytes≤140737488355328)
  {X:ag→ao→Prop}:aZ P N o env (aS s L) (fun r aj=>Grown s L e 1 [v] r aj) X:=by
 refine aZ.kB iW fun ro B a w p aI=>?_
 have gp:=aI.aM ab;have fs:=aI.aM ay;have eQ:=fun val w'=>u0 (P:=P) (a:=a) (val:=val) (w:=w) (w':=w') ai
 generalize ep:a.eval x=dR at gp eQ;generalize e9:a.eval y=fW at fs eQ;have tF:dR = .slice none 0 0:=by
  cases gp with
  | h4=>rfl
  | iE a _ _ h=>rcases h with h|h<;>cases h
  | aA g off n cap _ vs _ _ az=>exact absurd C az
 subst tF
 obtain ⟨aY,cg,cs',w',e8,fB,gq,jl,mA,mB,nk,nm⟩:=LH (ty:=o.type) aP aI.wf (base:=none) (n:=0) (cap:=0) (olds:=[]) (xs:=[]) aN bt c0 dy bJ U dS .nil rfl (by
  have:=run_firstCells_none (P:=P) w.drew 1 0 0 0
  simpa using this) fs de dC af (by simpa using an) af
 exact ⟨_,w',_,p,_,eQ _ _ e8,gq,jl,mA,⟨aY,cg,cs',rfl,rfl,⟨fB,I⟩,mB,nk,by simpa using nm⟩,.hG _⟩
theorem aZ.DK (aP:bQ P Γ) (I:Ok s L) {t bI e:TypeId} {x y:Operand} {it cz aH:bO} {b n cap bY:Nat} {cs:List ag} {v:ag} {dr:bN}
    (ai:o.op = .call { callee := .builtin .append,args := #[x,y],argTypes := #[t,bI] }) (aN:Γ.get? t=some it) (bt:it.bF = .aA e) (c0:Γ.get? bI=some cz) (dy:∀ k,cz.bF ≠ .int k)
    (bJ:Γ.get? e=some aH) (U:aH.size=1) (dS:af0 aH.zero.cells.size aH.size=true) (ab:aM env x=some (ee b n cap)) (ar:bo L (.own b) (.box e cs) R) (cy:cs.length=cap) (az:n≤cap) (hJ:(cs.take n).all fe=true)
    (ay:aM env y=some (.aA bY [v] dr)) (de:bY=1) (dC:fe v=true) (an:(n+1)*aH.bytes≤140737488355328) (ek:n+1≤9223372036854775807)
    {X:ag→ao→Prop}:aZ P N o env (aS s L) (fun r aj=>Grown s R e (n+1) (cs.take n++[v]) r aj) X:=by
  obtain ⟨b2,bU,e1⟩:=ar.perm I;refine aZ.kB iW fun ro B a w p aI=>?_
  have gp:=aI.aM ab;have fs:=aI.aM ay;have eQ:=fun val w'=>u0 (P:=P) (a:=a) (val:=val) (w:=w) (w':=w') ai
  generalize ep:a.eval x=dR at gp eQ;generalize e9:a.eval y=fW at fs eQ;cases gp;obtain ⟨vs,cu,cL,dT⟩:=aI.wf.obj _ _ (ar.get I);have fC:vs.toList.length=cap:=by rw [cL.length,cy]
  have hr:=cL.take n;have wX:=q6 hr hJ;have qd:∀ w':World,(∀ j,w'.cell? ⟨b,j,none⟩=w.cell? ⟨b,j,none⟩)→(Builtin.firstCells 1 n (.slice (some ⟨b,0,none⟩) n cap)).run P w' = .ok (vs.toList.take n).toArray w':=by
    intro w' iS;refine run_firstCells_some (P:=P) w' 1 n ⟨b,0,none⟩ n cap (vs.toList.take n) (by rw [ae8,fC];omega) (fun j u hu=>?_);rw [lB,af5,iS,jO cu];rw [ai4] at hu;split at hu
    · simpa using hu
    · cases hu
  by_cases au:cap<n+1
  · obtain ⟨aY,cg,cs',w',e8,fB,gq,jl,mA,mB,nk,nm⟩:=LH (ty:=o.type) aP aI.wf (base:=some ⟨b,0,none⟩) (n:=n) (cap:=cap) (olds:=vs.toList.take n) (xs:=cs.take n) aN bt c0 dy bJ U dS hr yi
      (qd w.drew fun _=>rfl) fs de dC au an ek
    have hU:ao.Sub ((aS s R).set aY (.box e cs')) ((aS s L).set aY (.box e cs')):=by
      refine DC (k := .own aY) ?_;rw [b2];exact yI (k := .own b) (ao.pr _) bU
    have av:aS s R aY=none:=by
      have h:=fB;rw [b2] at h;exact (ao.uK h).2
    exact ⟨_,w',_,p,_,eQ _ _ e8,gq,jl.sub hU,mA.sub hU,⟨aY,cg,cs',rfl,rfl,⟨av,e1⟩,mB,nk,nm⟩,.hG _⟩
  · obtain ⟨info,d,g1,g2,g3,-⟩:=aP.parts aN
    obtain ⟨mZ,c9,ea,dj,dQ,-⟩:=aP.parts c0;obtain ⟨j1,kC,cE,dq,fl,eK,j2,jz⟩:=aP.parts bJ;have ax:d = .slice e:=by rw [bt] at g3;cases d<;>simp [eB] at g3;rw [g3]
    subst ax;have cp:∀ k,c9 ≠ .int k:=fun k e'=>by subst e';exact dy k dQ.symm
    subst de;obtain ⟨us,iv,qb,j3,kn,tm,tn,tp⟩:=q9 (sz':=1) fs (.inr rfl);cases iv with
    | cons u _ wo _ hu wV=>
    cases wV;have mI:∀ x∈[u],x.oneCell'=true:=by intro x ab;rw [H1] at ab;subst ab;exact Gc hu dC
    have tE:flat [u]=[u]:=tD mI;have eP:vs.size=cap:=by rw [← ae9];exact fC
    have cS:=C9 (ty:=o.type) (P:=P) w g2 dj cp cE b n cap vs cu (xv:=fW) (m:=1) (news:=[u]) (j3 P) (by rw [eK,U,← tE];exact kn P w (fun _ _ _=>rfl)) mI af (by rw [eK,U,eP];simp;omega);rw [eK,U,ag'] at cS;have gW:bH w p (vs.toList.take n++[u]++vs.toList.drop (n+[u].length)) (cs.take n++[v]++cs.drop (n+1)):=bH.append (bH.append hr (.cons _ _ _ _ hu .nil)) (cL.drop _);have ck:(aS s L) b=some (.box e cs):=ar.get I
    obtain ⟨dm,jG,ix⟩:=wm aI.wf ck (vs':=(vs.toList.take n++[u]++vs.toList.drop (n+[u].length)).toArray) (cs':=cs.take n++[v]++cs.drop (n+1)) (fun AP bq=>by
      rw [cu] at bq;cases bq
      simp only [an1,f6,ae8,ai1,ag8,fC]
      rw [eP];omega) (by simpa using gW) _ C
    obtain ⟨f1,f2⟩:=ar.put (.box e (cs.take n++[v]++cs.drop (n+1))) I;refine ⟨_,_,_,p,_,eQ _ _ cS,dm,jG,ix,⟨b,cap,cs.take n++[v]++cs.drop (n+1),rfl,f1,f2,?_,by omega,?_⟩,.hG _⟩
    · simp only [f6,ae8,ai1,ag8,cy];omega
    · have:(cs.take n++[v]).length=n+1:=by simp [cy];omega
      rw [ai7 af,ag9 af]
theorem aa.DJ (aP:bQ P Γ) (I:Ok s L) {t bI e:TypeId} {x y:Operand} {it cz aH:bO} {dX bY:Nat} {v:ag} {dr:bN} (av:guardOf ops env o=some true) (ax:o.dst=some d) (aU:t8 d N=true)
  (ai:o.op = .call { callee := .builtin .append,args := #[x,y],argTypes := #[t,bI] }) (aN:Γ.get? t=some it) (bt:it.bF = .aA e) (c0:Γ.get? bI=some cz) (dy:∀ k,cz.bF ≠ .int k)
  (bJ:Γ.get? e=some aH) (U:aH.size=1) (dS:af0 aH.zero.cells.size aH.size=true) (ab:aM env x=some (.aA dX [] .nil)) (ay:aM env y=some (.aA bY [v] dr)) (de:bY=1) (dC:fe v=true) (an:1*aH.bytes≤140737488355328)
  (h:∀ aY cg cs',cs'.length=cg→1≤cg→cs'.take 1=[v]→Ok s ((.own aY,.box e cs')::L)→aa P N ops l Q ((d,ee aY 1 cg)::env) (aS s ((.own aY,.box e cs')::L))):aa P N ops (o::l) Q env (aS s L):=by
 refine aa.op av ax aU (aZ.DJ aP I ai aN bt c0 dy bJ U dS ab ay de dC an (X:=fun _ _=>False)) ?_ (fun _ _ h=>h.elim);rintro r aj ⟨aY,cg,cs',rfl,rfl,ad,al,bf,bE⟩;exact h aY cg cs' al bf bE ad
theorem aa.DK (aP:bQ P Γ) (I:Ok s L) {t bI e:TypeId} {x y:Operand} {it cz aH:bO} {b n cap bY:Nat} {cs:List ag} {v:ag} {dr:bN} (av:guardOf ops env o=some true) (ax:o.dst=some d) (aU:t8 d N=true)
  (ai:o.op = .call { callee := .builtin .append,args := #[x,y],argTypes := #[t,bI] }) (aN:Γ.get? t=some it) (bt:it.bF = .aA e) (c0:Γ.get? bI=some cz) (dy:∀ k,cz.bF ≠ .int k)
  (bJ:Γ.get? e=some aH) (U:aH.size=1) (dS:af0 aH.zero.cells.size aH.size=true) (ab:aM env x=some (ee b n cap)) (ar:bo L (.own b) (.box e cs) R) (cy:cs.length=cap) (az:n≤cap) (hJ:(cs.take n).all fe=true)
  (ay:aM env y=some (.aA bY [v] dr)) (de:bY=1) (dC:fe v=true) (an:(n+1)*aH.bytes≤140737488355328) (ek:n+1≤9223372036854775807)
  (h:∀ aY cg cs',cs'.length=cg→n+1≤cg→cs'.take (n+1)=cs.take n++[v]→Ok s ((.own aY,.box e cs')::R)→aa P N ops l Q ((d,ee aY (n+1) cg)::env) (aS s ((.own aY,.box e cs')::R))):aa P N ops (o::l) Q env (aS s L):=by
 refine aa.op av ax aU (aZ.DK aP I ai aN bt c0 dy bJ U dS ab ar cy az hJ ay de dC an ek (X:=fun _ _=>False)) ?_ (fun _ _ h=>h.elim);rintro r aj ⟨aY,cg,cs',rfl,rfl,ad,al,bf,bE⟩;exact h aY cg cs' al bf bE ad
theorem dI.tG {B:fV} {ro:Option Nat} {a:Act} {w:World} {p:bV} (h:dI N B ro env s a w p) {t b n cap:Nat} {T:TypeId} {cs:List ag} (aN:env.get? t=some (ee b n cap)) (ar:s b=some (.box T cs)) (cy:cs.length=cap) (az:n≤cap) (hm:n≤9223372036854775807)
  (hJ:(cs.take n).all fe=true):∃ bj,dI N B ro ((t,.aA 1 (cs.take n) .bb)::env) (s.del b) a w bj∧dg w p w bj∧Kept s (s.del b) w p w bj:=by
 have GA:dI N B ro ((a.tmps.size,.any)::[]) s a w p:=h.restrict _ (fun t v aw=>by
  simp only [Env.get?] at aw
  split at aw
  ·cases aw;exact .any _
  ·cases aw)
 obtain ⟨vs,U,ad,al⟩:=h.wf.obj _ _ ar;have au:b<w.heap.size:=(i9.1 U).1;have hle:dg w p w (p.ei b True):=⟨rfl,rfl,rfl,g8 _,fun _ _ h => .inl h,fun _ _ _=>rfl,fun _ _ h=>h⟩
 have aE:Kept s (s.del b) w p w (p.ei b True):=⟨fun _ _ _=>rfl,fun aY an az=>by
  by_cases e:aY=b
  ·subst e;exact ao.nN _ _
  ·rw [ao.m3 _ e];exact az,fun aY o an az aF=>by
   rcases aF with aF|⟨rfl,_⟩
   ·exact aF
   ·rw [ar] at az;cases az⟩
 have cf:dx w (p.ei b True) (s.del b):=by
  refine ⟨fun aY o an=>?_,fun aY o aF=>by rcases aF with aF|⟨rfl,_⟩;exact h.wf.lt _ _ aF;exact au⟩;by_cases e:aY=b
  ·subst e;rw [ao.nN] at an;cases an
  ·rw [ao.m3 _ e] at an
   have ai:=h.wf.obj aY o an;have fg:∀ o,p.ei b True aY o↔p aY o:=fun o=>⟨fun aF=>by rcases aF with aF|⟨e',_⟩;exact aF;exact absurd e' e,.inl⟩
   cases o with
   | box t c=>obtain ⟨us,g1,g2,g3⟩:=ai;exact ⟨us,g1,g2.mono hle,fun o aF=>g3 o ((fg o).1 aF)⟩
   | row t sz n=>obtain ⟨cur,g1,g2,g3,g4⟩:=ai;exact ⟨cur,g1,g2,g3,fun o=>(fg o).trans (g4 o)⟩
   | map es=>obtain ⟨cQ,c,g1,g2,g3⟩:=ai;exact ⟨cQ,c,g1,⟨g2.1.mono hle,g2.2.mono hle⟩,g3⟩
   | lz es it l c=>exact ai.q1 hle C C
   | tick m=>exact ai
   | loop r env=>exact ⟨ai.1,fun t v h=>(ai.2 t v h).mono hle⟩
 have aI:=h.step hle aE cf;refine ⟨_,⟨aI.size,fun bI v aw=>?_,aI.wf,aI.defs,aI.round,aI.base⟩,hle,aE⟩;simp only [Env.get?] at aw;split at aw
 ·rename_i he
  have:=ae0 he;subst this;cases aw;have aD:=h.env t _ aN;generalize a.tmps.getD t undef=dR at aD;cases aD;have hr:=ad.take n;have wX:=q6 hr hJ;have kA:=tD wX;refine .aA b 0 n cap 1 (vs.toList.take n) (cs.take n) .bb ba yi ?_ (hr.mono hle) (fun v aw=>by rw [AO (wX v aw)];rfl) hm az (fun h=>by cases h) (fun b h=>by cases h);rw [kA];intro i v aR;refine ⟨.inr ⟨rfl,trivial⟩,?_⟩;rw [af5,jO U];rw [ai4] at aR;split at aR
  ·simpa using aR
  ·cases aR
 ·exact aI.env bI v aw
theorem ae.tG {c:Code} (I:Ok s L) (t b:Nat) {n cap:Nat} {T:TypeId} {cs:List ag} (aN:env.get? t=some (ee b n cap)) (ar:bo L (.own b) (.box T cs) R) (cy:cs.length=cap) (az:n≤cap) (hm:n≤9223372036854775807) (hJ:(cs.take n).all fe=true)
  (h:Ok s R→ae P N c Q ((t,.aA 1 (cs.take n) .bb)::env) (aS s R)):ae P N c Q env (aS s L):=by
 obtain ⟨U,ad⟩:=ar.del I;intro tH B a w p e4 aI;obtain ⟨bj,al,bf,bE⟩:=aI.tG aN (ar.get I) cy az hm hJ;rw [U] at al bE;exact mq (h ad tH B a w bj e4 al) fun _ _ _ q=>q.after bf bE
end
section
open Go.Sort
variable {P:Program} {α:Type}
theorem AQ {w:World} {p:bV} (k:Nat):dg w p (Sort.ahead w k) p:=⟨rfl,rfl,rfl,g8 _,fun _ _ h=>h,fun _ _ _=>rfl,fun _ _ h=>h⟩
theorem Uo {w:World} {p:bV} {s:ao} (k:Nat) (h:dx w p s):dx (Sort.ahead w k) p s:=h.grow (AQ k) (fun _ _=>rfl) (fun _ _ _ h=>h) h.lt
theorem Up {w:World} {p:bV} {s:ao} (k:Nat):Kept s s w p (Sort.ahead w k) p:=⟨fun _ _ _=>rfl,fun _ _ h=>h,fun _ _ _ _ h=>h⟩
theorem G2 (w:World) (os:Array Obj) (b:Nat) (h:b<w.heap.size):(grow w os).heap[b]? = w.heap[b]?:=by
 show (w.heap++os)[b]? = _;rw [Array.getElem?_append_left h]
theorem LI {w:World} {p:bV} (au:∀ b o,p b o→b<w.heap.size) (os:Array Obj):dg w p (grow w os) p:=
 dg.of_heap C C C (by show w.heap.size≤(w.heap++os).size;simp) (fun _ _ h=>h) au (fun b an=>G2 w os b an)
theorem Uq {w:World} {p:bV} {s:ao} (h:dx w p s) (os:Array Obj):dx (grow w os) p s:=
 h.grow (LI h.lt os) (fun b an=>G2 w os b an) (fun _ _ _ h=>h) (fun b o aF=>al2 (h.lt b o aF) (by show w.heap.size≤(w.heap++os).size;simp))
theorem Ur {w:World} {p:bV} {s:ao} (os:Array Obj):Kept s s w p (grow w os) p:=⟨fun b an _=>G2 w os b an,fun _ _ h=>h,fun _ _ _ _ h=>h⟩
theorem LJ {w:World} {p:bV} {enc:α→Value} {encA:α→ag} (ad:∀ w p a,Rel w p (enc a) (encA a)):∀ l:List α,bH w p (l.map enc) (l.map encA)
 | [] => .nil
 | a::l => .cons _ _ _ _ (ad w p a) (LJ ad l)
theorem LK {w:World} {p:bV} {enc:α→Value} {encA:α→ag} (U:∀ w p v a,Rel w p v (encA a)→v=enc a):∀ {l:List α} {vs:List Value},bH w p vs (l.map encA)→vs=l.map enc
  | [],vs,h=>by cases h;rfl
  | a::l,vs,h=>by
    cases h with
    | cons v _ vs' _ aw aN=>rw [U _ _ _ _ aw,LK U aN];rfl
variable [Inhabited α]
theorem bA.sort {f:FuncId} {enc:α→Value} {encA:α→ag} {le:α→α→Bool} {e:TypeId} (aB:ts P f) (U:∀ w p v a,Rel w p v (encA a)→v=enc a) (ad:∀ w p a,Rel w p (enc a) (encA a))
  (Us:∀ (sm off cap:Nat) (gy:List α) (w:World),Holds enc w sm off gy.toArray→sm<w.heap.size→gy.length<4611686018427387904→Calls P f #[.slice (some ⟨sm,off,none⟩) gy.length cap] w fun e w'=>e = .returned (.tuple #[])∧∃ n os,w'=grow (putRow enc (Sort.ahead w n) sm off (gy.mergeSort le).toArray) os)
  (b cap:Nat) (gy:List α) (rest:List ag) (aC:gy.length<4611686018427387904) :
  bA P f [ee b gy.length cap] [(.own b,.box e (gy.map encA++rest))] (fun o K=>o = .ret (.cw [])∧K=[(.own b,.box e ((gy.mergeSort le).map encA++rest))]):=by
 intro s I;refine ⟨aB,fun w p vs cf eW=>?_⟩;cases eW with
 | cons v _ vs' _ aw aN=>
 cases aN;cases aw;obtain ⟨cur,cu,cL,dT⟩:=cf.obj b _ (ao.gn _ _ _);have au:b<w.heap.size:=(i9.1 cu).1;have cy:cur.toList=gy.map enc++cur.toList.drop gy.length:=by
  have al:=cL.take gy.length;rw [ai7 ba,ag9 (l:=gy.map encA) ba] at al;rw [← LK U al,ai9]
 have hI:gy.length≤cur.size:=by
  have:=cL.length;rw [ae9] at this;rw [this];simp
 have G3:Holds enc w b 0 gy.toArray:=by
  intro j aL;have G4:j<gy.length:=by simpa using aL
  refine ⟨?_,by simp [World.frozen?,cu]⟩;rw [af5,jO cu,← au9,cy,ag0 (by simpa using G4),ae4,f7 G4];simp [G4]
 refine Calls.mono (Us b 0 cap gy w G3 au aC) ?_;rintro DL w' ⟨rfl,k,os,rfl⟩;refine ⟨by simp,.ret (.cw []),aS s [(.own b,.box e ((gy.mergeSort le).map encA++rest))],p,.cw #[] [] .nil,⟨_,rfl,I,rfl,rfl⟩,?_⟩;have iV:(gy.mergeSort le).length=gy.length:=List.length_mergeSort gy;have mE:putRow enc (Sort.ahead w k) b 0 (gy.mergeSort le).toArray=(Sort.ahead w k).setRow b ((gy.mergeSort le).map enc++cur.toList.drop gy.length).toArray:=by
  unfold putRow mapBlock World.setRow;congr 1;refine aw7 fun i=>?_
  rw [ao8,ao8];by_cases e:b=i
  ·subst e
   rw [g6 C,g6 C];show (w.heap[b]?).map _=(w.heap[b]?).map _;rw [cu];simp only [ao9,onCells];congr 2;refine aw7 fun j=>?_
   simp only [putCells,Array.getElem?_mapIdx,g7,true_and,af5,an1,iV,av0];rw [← au9,← au9];by_cases aL:j<gy.length
   ·rw [ag0 (by rw [d9,iV];exact aL),ae4,f7 (l:=gy.mergeSort le) (by rw [iV];exact aL)]
    have:j<cur.toList.length:=by rw [ae9];omega
    rw [f7 this];simp [aL,iV]
   ·rw [af4 (by rw [d9,iV];omega),d9,iV,List.getElem?_drop]
    rw [show gy.length+(j-gy.length)=j by omega];cases cur.toList[j]? with
    | none=>rfl
    | some y=>simp [aL]
  ·rw [f0 e,f0 e]
 rw [mE];have gW:bH w p (((gy.mergeSort le).map enc++cur.toList.drop gy.length).toArray).toList ((gy.mergeSort le).map encA++rest):=by
  refine bH.append (LJ ad _) ?_;have:=cL.drop gy.length;rwa [List.drop_append_of_le_length ba,List.drop_of_length_le (l:=gy.map encA) ba,d8] at this
 have dE:=Uo k cf;have ck:(aS s [(.own b,.box e (gy.map encA++rest))]) b=some (.box e (gy.map encA++rest)):=ao.gn _ _ _
 obtain ⟨dm,jG,ix⟩:=wm dE ck (vs':=((gy.mergeSort le).map enc++cur.toList.drop gy.length).toArray) (cs':=(gy.mergeSort le).map encA++rest) (fun AP bq=>by
  have LL:w.heap[b]? = some (.cells AP e (0,0)):=bq
  rw [cu] at LL;cases LL
  simp only [an1,f6,d9,iV,ai1,ae9]
  omega) (gW.mono (AQ k)) _ C
 rw [show (aS s [(.own b,.box e (gy.map encA++rest))]).set b (.box e ((gy.mergeSort le).map encA++rest))=aS s [(.own b,.box e ((gy.mergeSort le).map encA++rest))] from ao.set_set _ _ _ _] at jG ix;refine ⟨((AQ k).trans dm).trans (LI ix.lt os),((Up k).trans (AQ (p:=p) k).size jG).trans ((AQ k).trans dm).size (Ur os),Uq ix os⟩
end
section
variable {P:Program} {Γ:cA} {N:Nat} {ops:Array Oper} {Q:b9→Env→ao→Prop} {env:Env} {s:ao} {l:List Oper} {o:Oper} {d:Nat} {L R dw:a'}
end
section
variable {P:Program} {Γ:cA} {N:Nat} {env:Env} {s:ao}
variable {ops:Array Oper} {l:List Oper} {Q:b9→Env→ao→Prop} {o:Oper} {d m:Nat}
end
theorem bc.dY {P:Program} {Γ:cA} {N:Nat} {ops:Array Oper} {Q:b9→Env→ao→Prop} {D:Nat→Bool} {env:Env} {s:ao} (t:Nat) {b:Bool} (aw:env.get? t=some (.bool b)) (he:b=true)
  (h:bc P Γ N ops Q D ((t,.bool true)::env) s):bc P Γ N ops Q D env s:=by
 subst he;refine bc.congr _ (fun x=>?_) h;show (if af0 t x then _ else _)=_;split
 ·rename_i ab
  rw [← aw,ae0 ab]
 ·rfl
theorem bc.dh {P:Program} {Γ:cA} {N:Nat} {ops:Array Oper} {Q:b9→Env→ao→Prop} {D:Nat→Bool} {env:Env} {s:ao} (t:Nat) {b:Bool} (aw:env.get? t=some (.bool b)) (he:b=false)
  (h:bc P Γ N ops Q D ((t,.bool false)::env) s):bc P Γ N ops Q D env s:=by
 subst he;refine bc.congr _ (fun x=>?_) h;show (if af0 t x then _ else _)=_;split
 ·rename_i ab
  rw [← aw,ae0 ab]
 ·rfl
section
variable {P:Program} {Γ:cA} {N:Nat} {Q:b9→Env→ao→Prop} {env:Env} {s:ao} {l:List Oper} {m:Nat}
theorem bc.GJ (aP:bQ P Γ) {i:Nat} {o:Oper} {d:Nat} {t bI e:TypeId} {x y:Operand} {it cz aH:bO} {dX bY n:Nat} {xs ys:List ag} {own dr:bN} (aD:eJ l.toArray m (idxs 0 l)=[i]) (ai:l.toArray[i]? = some o) (ax:o.dst=some d) (aU:t8 d N=true)
  (av:c6 l env o) (b3:o.op = .call { callee := .builtin .append,args := #[x,y],argTypes := #[t,bI] }) (aN:Γ.get? t=some it) (bt:it.bF = .aA e) (c0:Γ.get? bI=some cz) (dy:∀ k,cz.bF ≠ .int k)
  (bJ:Γ.get? e=some aH) (ab:aM (b4 l env o) x=some (.aA dX xs own)) (ay:aM (b4 l env o) y=some (.aA bY ys dr)) (gE:dX=aH.size) (de:ys=[]∨bY=aH.size)
  (dS:af0 aH.zero.cells.size aH.size=true) (dC:∀ y∈ys,km aH.size y=true) (an:(xs.length+ys.length)*aH.bytes≤140737488355328) (ek:xs.length+ys.length≤9223372036854775807) (az:n=xs.length)
  {qp:ao} (ar:qp=rowOf s e aH.size n own) (I:rm s n own)
  (h:∀ cM,rm s (xs.length+ys.length) cM→bc P Γ N l.toArray Q (bZ (m|||2^i)) ((d,.aA aH.size (xs++ys) cM)::env) (rowOf s e aH.size (xs.length+ys.length) cM)):bc P Γ N l.toArray Q (bZ m) env qp:=by
 subst ar;subst az;refine bc.one aD ai ax aU av (aZ.GJ aP b3 aN bt c0 dy bJ ab ay gE de dS dC an ek C I (X:=fun _ _=>False)) ?_ (fun _ _ h=>h.elim);rintro r aj ⟨cM,U,-,-,rfl,rfl⟩;exact h cM U
end
theorem hp.args {P:Program} {f:FuncId} {xs ys:List ag} {s:ao} {R:eC→ao→Prop} (aC:cU xs ys) (h:hp P f ys s R):hp P f xs s R:=
 ⟨h.1,fun w p vs cf aD=>h.2 w p vs cf (aC.rel aD)⟩
theorem bA.args {P:Program} {f:FuncId} {xs ys:List ag} {K:a'} {aef:eC→a'→Prop} (h:cU xs ys) (k:bA P f ys K aef):bA P f xs K aef:=fun s I=>hp.args h (k s I)
theorem aT.args {P:Program} {f:FuncId} {xs ys:List ag} {v:ag} (h:cU xs ys) (k:aT P f ys v):aT P f xs v:=fun s=>hp.args h (k s)
theorem oH {Γ:cA} {env:Env} {s:ao} {a b:Nat} {t T:TypeId} {i:bO} {cs:List ag} {v:ag} (he:env.get? a=some (.ptr b 0)) (aR:Γ.get? t=some i) (ar:s b=some (.box T cs)) (aC:hV i cs 0=some v) :
  oC Γ env s [.cell a t]=some v:=by simp [oC,wB,Au,he,aR,ar,aC]
theorem wY {Γ:cA} {env:Env} {s:ao} {a b c:Nat} {t T:TypeId} {i:bO} {cs:List ag} {v u:ag} (he:env.get? a=some (.ptr b 0)) (aR:Γ.get? t=some i) (ar:s b=some (.box T cs)) (aC:hV i cs 0=some v) (aB:env.get? c=some u) :
  oC Γ env s [.cell a t,.tmp c]=some (.cw [v,u]):=by simp [oC,wB,Au,he,aR,ar,aC,aB]
theorem aa.h0 {P:Program} {N:Nat} {ops:Array Oper} {Q:b9→Env→ao→Prop} {env:Env} {s:ao} {l:List Oper} {L:a'} (I:Ok s L) (e:TypeId) (sz n:Nat) (h:Ok s ((.nil,.row e sz n)::L)→aa P N ops l Q env (aS s ((.nil,.row e sz n)::L))):aa P N ops l Q env (aS s L):=h ⟨trivial,I⟩
theorem ae.h0 {P:Program} {N:Nat} {Q:b9→Env→ao→Prop} {env:Env} {s:ao} {c:Code} {L:a'} (I:Ok s L) (e:TypeId) (sz n:Nat) (h:Ok s ((.nil,.row e sz n)::L)→ae P N c Q env (aS s ((.nil,.row e sz n)::L))):ae P N c Q env (aS s L):=h ⟨trivial,I⟩
def LM (P:Program) {α:Type} (bK:α→ag) (l:Nat) (Go:List α→a'→Prop) (fJ:a'→Prop) (fQ:ag→a'→Prop):Prop:=
 ∀ x rem K,Go (x::rem) K→dA P (l3 l) [bK x] K (fun o aO=>(o = .ret (.bool true)∧Go rem aO)∨(o = .ret (.bool false)∧fJ aO)∨∃ v,o = .panic v∧fQ v aO)
def yL (P:Program) (f:FuncId) (first cap:List ag) (nn:a') {α:Type} (bK:α→ag) (xs:List α):Prop:=
 ∀ (l:Nat) (Go:List α→a'→Prop) (fJ:a'→Prop) (fQ:ag→a'→Prop),LM P bK l Go fJ fQ→∀ K,Go xs K →
  bA P f (first++([l3 l]++cap)) (nn++K) (fun o aO=>(o = .ret (.cw [])∧(Go [] aO∨fJ aO))∨∃ v,o = .panic v∧fQ v aO)
theorem aG.dB:∀ L:a',aG L L []
 | [] => .nil
 | (_,_)::L => .cons .here (aG.dB L)
theorem aG.there {L K R:a'} {e:bN×dH} (h:aG L K R):aG (e::L) K (e::R):=by
 induction h with
 | nil=>exact .nil
 | cons h t a1=>exact .cons (.there h) a1
theorem aG.app {L K R aO dw:a'} (h:aG L K R) (e3:aG R aO dw):aG L (K++aO) dw:=by
 induction h with
 | nil=>exact e3
 | cons h t a1=>exact .cons h (a1 e3)
theorem bo.app {L R:a'} {k:bN} {o:dH}:∀ (K:a'),bo L k o R→bo (K++L) k o (K++R)
 | [],h=>h
 | _::K,h => .there (bo.app K h)
theorem bo.Ut {L R:a'} {k:bN} {o:dH} (h:bo L k o R) (M:a'):bo (L++M) k o (R++M):=by
 induction h with
 | here=>exact .here
 | there h a1=>exact .there a1
theorem aG.jH {L K dw R:a'} (h:aG L K dw):aG (L++R) K (dw++R):=by
 induction h with
 | nil=>exact .nil
 | cons h t a1=>exact .cons (h.Ut _) a1
def At (s:ao) (aej:a'→Prop) (aj:ao):Prop:=∃ L K R,aj=aS s L∧Ok s L∧aG L K R∧aej K
theorem At.mk {s:ao} {aej:a'→Prop} {L R:a'} (K:a') (I:Ok s L) (ar:aG L K R) (aq:aej K):At s aej (aS s L):=⟨L,K,R,rfl,I,ar,aq⟩
theorem hY.less {P:Program} {fv:ag} {args:List ag} {s:ao} {R dw:eC→ao→Prop} (h:hY P fv args s R) (aD:∀ o aj,R o aj→∃ eO,ao.Sub eO aj∧dw o eO):hY P fv args s dw:=by
 intro w p v vs cf aw eP;refine (h w p v vs cf aw eP).mono ?_;rintro e w' ⟨o,aj,bj,U,ad,al,bf,bE⟩;obtain ⟨eO,cE,dq⟩:=aD o aj ad;exact ⟨o,eO,bj,U,dq,al,bf.sub cE,bE.sub cE⟩
section
variable {P:Program} {N:Nat} {Q:b9→Env→ao→Prop} {env:Env} {s:ao} {L R:a'}
theorem ae.G5 {α:Type} {bK:α→ag} {xs:List α} {t:Tmp} {g:Operand} {hl body:Code} {f:FuncId} {first cap:List ag} {nn:a'} (I:Ok s L) (av:aM env g=some (.func f first cap)) (aU:t<N)
  (oI:yL P f first cap nn bK xs) (ar:aG L nn R) (aej:List α→a'→Prop) (J:Code→a'→Prop) (tI:ag→a'→Prop) (bq:aej xs R)
  (tc:∀ s x rem K,aej (x::rem) K→Ok s K→ae P N hl (b9.andThen (ae P N body (Dq (At s (aej rem)) (fun j=>At s (J j)) (fun v=>At s (tI v)))) (fun _ _ _=>False)) ((t,bK x)::env) (aS s K))
  (az:∀ K,aej [] K→Ok s K→Q .normal env (aS s K))
  (aL:∀ j K,J j K→Ok s K→ae P N j Q env (aS s K))
  (ab:∀ v K,tI v K→Ok s K→Q (.panic v) env (aS s K)):ae P N (.rangeFunc g #[t] hl body) Q env (aS s L):=by
 refine ae.Li av (by intro bI c0;simp at c0;subst c0;exact aU) fun l r aC G6=>?_
 have G7:Ok s ((.own l,.loop r env)::L):=⟨aC,I⟩;have pF:LM P bK l (fun rem K=>∃ aO,K=(.own l,.loop r env)::aO∧aej rem aO) (fun K=>∃ j aO,K=(.own l,.loop (rl r j) env)::aO∧J j aO) (fun v K=>∃ aO,K=(.own l,.loop (busy r) env)::aO∧tI v aO):=by
  rintro x rem _ ⟨K,rfl,aq⟩ aj AR;refine (G6 [bK x] _ (At aj (aej rem)) (fun j=>At aj (J j)) (fun v=>At aj (tI v)) (ao.gn _ _ _) C ?_).less ?_
  ·have:=ao.Aj (aS aj K) l (.loop r env) AR.1
   show ae P N hl _ _ (((aS aj K).set l (.loop r env)).del l);rw [this];exact tc aj x rem K aq AR.2
  ·have key:∀ {L K R:a'} {o:dH},aS aj L l=none→Ok aj L→aG L K R→ao.Sub (aS aj ((.own l,o)::K)) ((aS aj L).set l o)∧Ok aj ((.own l,o)::K):=by
    intro L K R o U ad al;exact (aG.cons bo.here al).sub (L:=(.own l,o)::L) ⟨U,ad⟩
   rintro o eO (⟨rfl,dN,U,rfl,L,aO,R,rfl,ad,bf,al⟩|⟨rfl,j,dN,U,rfl,L,aO,R,rfl,ad,bf,al⟩|⟨v,dN,rfl,U,rfl,L,aO,R,rfl,ad,bf,al⟩)
   ·obtain ⟨cE,dq⟩:=key U ad bf (o := .loop r env)
    exact ⟨_,cE,(.own l,.loop r env)::aO,rfl,dq,.inl ⟨rfl,aO,rfl,al⟩⟩
   ·obtain ⟨cE,dq⟩:=key U ad bf (o := .loop (rl r j) env)
    exact ⟨_,cE,(.own l,.loop (rl r j) env)::aO,rfl,dq,.inr (.inl ⟨rfl,j,aO,rfl,al⟩)⟩
   ·obtain ⟨cE,dq⟩:=key U ad bf (o := .loop (busy r) env)
    exact ⟨_,cE,(.own l,.loop (busy r) env)::aO,rfl,dq,.inr (.inr ⟨v,rfl,aO,rfl,al⟩)⟩
 have c3:=(oI l _ _ _ pF _ ⟨R,rfl,bq⟩).at G7 ((ar.there (e:=(.own l,.loop r env))).app (aG.dB _));refine c3.mono ?_;rintro o eO ⟨M,rfl,iX,aO,rfl,h⟩;rw [d6] at iX ⊢;rcases h with ⟨rfl,⟨mJ,rfl,h⟩|⟨j,mJ,rfl,h⟩⟩|⟨v,rfl,mJ,rfl,h⟩
 ·exact .inl ⟨aS s mJ,iX.1,rfl,az mJ h iX.2⟩
 ·exact .inr ⟨j,aS s mJ,iX.1,rfl,aL j mJ h iX.2⟩
 ·exact ⟨aS s mJ,_,iX.1,rfl,ab v mJ h iX.2⟩
end
section
variable {P:Program} {Γ:cA} {N:Nat} {l:List Oper} {Q:b9→Env→ao→Prop} {env:Env} {s:ao} {m d:Nat} {o:Oper} {L K R:a'} {aef:eC→a'→Prop}
theorem bc.bX (i:Nat) {f:FuncId} {f':Array Operand} {da:Array TypeId} {xs:List ag} (aD:eJ l.toArray m (idxs 0 l)=[i]) (ai:l.toArray[i]? = some o) (ax:o.dst=some d) (aU:t8 d N=true)
  (av:c6 l env o) (b3:o.op = .call { callee := .value (.func f),args:=f',argTypes:=da }) (a6:fX (b4 l env o) f'.toList=some xs) (h:bA P f xs K aef) (I:Ok s L) (ar:aG L K R)
  (aE:∀ x aO,aef (.ret x) aO→Ok s (aO++R)→bc P Γ N l.toArray Q (bZ (m|||2^i)) ((d,x)::env) (aS s (aO++R))) (ab:∀ x aO,aef (.panic x) aO→Ok s (aO++R)→Q (.panic x) [] (aS s (aO++R))):bc P Γ N l.toArray Q (bZ m) env (aS s L):=
 bg.bX aD ai ax aU av b3 a6 h I ar (fun _ _ _ _ => .inl trivial) aE ab
theorem bg.Uu {J:ao→Prop} (i:Nat) (aP:bQ P Γ) (cO:J s) {t:TypeId} {x:Operand} {dP:bO} {b off:Nat} {v:ag} (aD:iI l.toArray m i=true) (ai:l.toArray[i]? = some o) (ax:o.dst=some d) (aU:t8 d N=true)
  (av:c6 l env o) (b3:o.op = .load t x) (aN:Γ.get? t=some dP) (ab:aM (b4 l env o) x=some (.ptr b off)) (ar:∀ s,J s→∃ T cs,s b=some (.box T cs)∧hV dP cs off=some v)
  (h:bg J P Γ N l.toArray Q (bZ (m|||2^i)) ((d,v)::env) s):bg J P Γ N l.toArray Q (bZ m) env s:=
 bg.si cO aD ai ax aU av (fun s hL=>by obtain ⟨T,cs,U,ad⟩:=ar s hL;exact aZ.uL aP b3 aN ab U ad) h
end
section
variable {P:Program} {N:Nat} {Q:b9→Env→ao→Prop} {env:Env} {s:ao} {L:a'}
def DM {σ:Type} (s:ao) (E:σ→Env) (K:σ→a') (aej:σ→Prop) (Q:b9→Env→ao→Prop):b9→Env→ao→Prop
 | .normal,e0,aj=>∃ y oE dw,aej y∧Env.Sub (E y) e0∧aj=aS s oE∧Ok s oE∧aG oE (K y) dw
 | e,e0,aj=>Q e e0 aj
theorem DM.mk {σ:Type} {E:σ→Env} {K:σ→a'} {aej:σ→Prop} (y:σ) {dw:a'} (I:Ok s L) (aq:aej y) (eS:Env.Sub (E y) env) (ck:aG L (K y) dw):DM s E K aej Q .normal env (aS s L):=⟨y,L,dw,aq,eS,rfl,I,ck⟩
theorem ae.Uv {σ:Type} {x y:Code} {pn:b9→Env→ao→Prop} (E:σ→Env) (K:σ→a') (aej:σ→Prop) (wO:ae P N x (DM s E K aej pn) env (aS s L)) (wP:∀ z,aej z→Ok s (K z)→ae P N y Q (E z) (aS s (K z))) :
  ae P N x (b9.andThen (ae P N y Q) pn) env (aS s L):=by
 refine wO.mono ?_;intro e e0 aj h;cases e with
 | normal=>
  obtain ⟨z,oE,dw,g1,g2,rfl,g3,g4⟩:=h;obtain ⟨cE,dq⟩:=g4.sub g3;exact ae.sub _ g2 (ae.drop _ cE (wP z g1 dq))
 | exit id=>exact h
 | ret=>exact h
 | panic v=>exact h
end
section
variable {P:Program} {N:Nat} {ops:Array Oper} {Q:b9→Env→ao→Prop} {env:Env} {s:ao} {l:List Oper} {o:Oper} {d:Nat}
theorem aZ.rem {t yt:TypeId} {x y:Operand} {k:IntKind} {a b r:Int} (ai:o.op = .binOp .rem t x y yt) (ab:aM env x=some (.int k a)) (ay:aM env y=some (.int k b)) (an:b≠0) (aD:a.tmod b=r) :
  aZ P N o env s (fun x aj=>x = .int k r∧aj=s) (fun _ _=>False):=by
 refine aZ.m0 iW fun ro B c7 w p aI=>?_
 have U:=aI.aM ab;have ad:=aI.aM ay;generalize ep:c7.eval x=dR at U;generalize e9:c7.eval y=fW at ad;cases U;cases ad;refine tt (v := .int k r) ai ?_ ?_ (.int _ _)
 ·rw [ep,e9];unfold eqGuard;simp
 ·rw [ep,e9]
  simp only [binOp,ne_eq,not_true_eq_false,ah',Op.intDiv,an,aD];rfl
theorem aa.rem {t yt:TypeId} {x y:Operand} {k:IntKind} {a b r:Int} (av:guardOf ops env o=some true) (ax:o.dst=some d) (aU:t8 d N=true) (ai:o.op = .binOp .rem t x y yt) (ab:aM env x=some (.int k a)) (ay:aM env y=some (.int k b)) (an:b≠0) (aD:a.tmod b=r)
  (h:aa P N ops l Q ((d,.int k r)::env) s):aa P N ops (o::l) Q env s:=
 aa.op av ax aU (aZ.rem ai ab ay an aD) (fun x aj ⟨U,ad⟩=>by subst U;subst ad;exact h) (fun _ _ h=>h.elim)
end
theorem G8 {P:Program} {cs:List Frame} (T:List Deferred):∀ (ds:List Nat) (hn:Frame) (w:World),hn.mode ≠ .run→hn.defers=marksOf ds++T →
  (∀ d∈ds,w.heap[d]? = some (.deferred (some [])))→ds.Nodup→Steps P (lone hn cs w) (lone { hn with defers:=T } cs (hA w ds)):=by
 intro ds
 induction ds with
 | nil=>
  intro hn w _ ax _ _;have:({ hn with defers:=T }:Frame)=hn:=by cases hn;simp_all [marksOf]
  rw [this];exact .refl P _
 | cons d ds a1=>
  intro hn w hm ax an az;have lU:w.heap[d]? = some (.deferred (some [])):=an d (i6 ..);have aN:(Instr.takeDeferred d).run P w = .ok [] { w with heap:=w.heap.setIfInBounds d (.deferred none) }:=by
   unfold Instr.takeDeferred;simp only [ac',getObj,setObj,Sem.run,lU,Result.andThen];rfl
  have U:step P (lone hn cs w) = .next (lone { hn with defers:=marksOf ds++T } cs { w with heap:=w.heap.setIfInBounds d (.deferred none) }):=by
   refine step_lone_go ?_;cases vW:hn.mode with
   | run=>exact absurd vW hm
   | returning=>simp [stepG,unwind,vW,ax,marksOf,au7,aN]
   | panicking chain=>simp [stepG,unwind,vW,ax,marksOf,au7,aN]
  have e7:=List.nodup_cons.1 az;refine .head U (a1 { hn with defers:=marksOf ds++T } _ hm C ?_ e7.2);intro c9 cp;have cJ:d≠c9:=fun e=>e7.1 (e ▸ cp)
  simp only [Array.getElem?_setIfInBounds,cJ,ah'];exact an c9 (i0 _ cp)
def Uw (P:Program) (fn:Func) (R:Ending→World→Prop) (T:List Deferred):hd→Act→World→Prop
 | .normal,a,w | .ret,a,w=>∃ ds,a.defers=marksOf ds++T∧ds.Nodup∧(∀ d∈ds,w.heap[d]? = some (.deferred (some [])))∧Leaves P fn a.tmps R T .returning (hA w ds)
 | .panic dJ,a,w=>∃ ds,a.defers=marksOf ds++T∧ds.Nodup∧(∀ d∈ds,w.heap[d]? = some (.deferred (some [])))∧Leaves P fn a.tmps R T (.panicking dJ) (hA w ds)
 | .exit _,_,_=>False
theorem LN {P:Program} {f:FuncId} {fn:Func} {DN e8 rest:Code} {args:Array Value} {w:World} {R:Ending→World→Prop} {T:List Deferred}
  (a7:P.funcs[f]? = some fn) (an:fn.body=some (.seq DN (.seq e8 rest)))
  (h:DN.wp P (fun e a w=>e = .normal∧e8.wp P (fun e a w=>e = .normal∧∀ b:Frame,b.roundOf=none→b.fn=f→jZ P b rest (Uw P fn R T) a w) a w) { tmps:=args++al5 (fn.ntmps-args.size) undef,defers:=[] } w) :
  Calls P f args w R:=by
 intro cs
 let b:Frame:={ (default:Frame) with fn:=f,kind := .normal,roundOf:=none }
 have tb:Frame.enter P f args .normal =
   b.at { tmps:=args++al5 (fn.ntmps-args.size) undef,defers:=[] } [.code (.seq DN (.seq e8 rest))]:=by
  simp [Frame.enter,Frame.at,a7,an,b]
 obtain ⟨ji,a0,l8,⟨rfl,U⟩,Ux⟩:=h b [.code (.seq e8 rest)] cs;obtain ⟨b2,dE,dm,⟨rfl,ad⟩,s1⟩:=U b [.code rest] cs;have Uy:Steps P (lone (b.at { tmps:=args++al5 (fn.ntmps-args.size) undef,defers:=[] } [.code DN,.code (.seq e8 rest)]) cs w) (lone (b.at a0 [.code (.seq e8 rest)]) cs l8):=Ux;have Uz:Steps P (lone (b.at a0 [.code e8,.code rest]) cs l8) (lone (b.at dE [.code rest]) cs dm):=s1;have m6:Steps P (lone (Frame.enter P f args .normal) cs w) (lone (b.atR dE [.code rest]) cs dm):=by
  rw [tb,Frame.atR_of_none C];exact .head step_seq (Uy.trans (.head step_seq Uz))
 obtain ⟨e,c7,w',br,gg⟩:=ad b rfl rfl [] cs;cases e with
 | normal=>
  obtain ⟨ds,ax,az,kh,bM⟩:=br;have ar:=Steps.trans (Steps.trans m6 gg) (Steps.trans (.one (stepR_end C)) (G8 T ds { b.atR c7 [] with mode := .returning } w' ba ax kh az));obtain ⟨e',mr,AS,dM,hL,e4,aC⟩:=leaves_steps T .returning _ { b.atR c7 [] with mode := .returning,defers:=T } cs rfl rfl rfl a7 rfl bM;exact ⟨e',mr,AS,dM,Comes.of_steps ar hL,e4,aC⟩
 | ret=>
  obtain ⟨ds,ax,az,kh,bM⟩:=br;obtain ⟨k₁,ar⟩:=gg;have ar:=Steps.trans (Steps.trans m6 ar) (Steps.trans (.one (stepR_ret C)) (G8 T ds { b.atR c7 (.code .ret::k₁) with mode := .returning } w' ba ax kh az));obtain ⟨e',mr,AS,dM,hL,e4,aC⟩:=leaves_steps T .returning _ { b.atR c7 (.code .ret::k₁) with mode := .returning,defers:=T } cs rfl rfl rfl a7 rfl bM;exact ⟨e',mr,AS,dM,Comes.of_steps ar hL,e4,aC⟩
 | panic dJ=>
  obtain ⟨ds,ax,az,kh,bM⟩:=br;obtain ⟨k₁,ar⟩:=gg;have ar:=Steps.trans (Steps.trans m6 ar) (G8 T ds { b.atR c7 k₁ with mode := .panicking dJ } w' ba ax kh az);obtain ⟨e',mr,AS,dM,hL,e4,aC⟩:=leaves_steps T (.panicking dJ) _ { b.atR c7 k₁ with mode := .panicking dJ,defers:=T } cs rfl rfl rfl a7 rfl bM;exact ⟨e',mr,AS,dM,Comes.of_steps ar hL,e4,aC⟩
 | exit id=>exact br.elim
section
variable {P:Program} {Γ:cA} {N:Nat} {l:List Oper} {Q:b9→Env→ao→Prop} {env:Env} {s:ao} {m d:Nat} {o:Oper} {L K R:a'} {aef:eC→a'→Prop}
theorem bc.jD (i:Nat) (aP:bQ P Γ) (I:Ok s L) {t dW e5:TypeId} {x y:Operand} {ok:Bool} {it gL aH:bO} {mb:Nat} {es:List (ag×ag)} {k z:ag} {r:Option ag} (aD:eJ l.toArray m (idxs 0 l)=[i]) (ai:l.toArray[i]? = some o) (ax:o.dst=some d) (aU:t8 d N=true)
  (av:c6 l env o) (b3:o.op = .lookup t x y ok) (aN:Γ.get? t=some it) (bt:it.bF = .map dW e5) (jy:Γ.get? dW=some gL) (bJ:Γ.get? e5=some aH) (ab:aM (b4 l env o) x=some (.map mb)) (ay:aM (b4 l env o) y=some k) (ar:bo L (.own mb) (.map es) R)
  (a7:kk gL.bF k=true) (jx:jj es k=some r) (bG:hH aH.zero=some z) (h:bc P Γ N l.toArray Q (bZ (m|||2^i)) ((d,l0 ok z r)::env) (aS s L)):bc P Γ N l.toArray Q (bZ m) env (aS s L):=
 bc.one aD ai ax aU av (aZ.jD aP I b3 aN bt jy bJ ab ay ar a7 jx bG (X:=fun _ _=>False)) (fun x aj ⟨U,ad⟩=>by subst U;subst ad;exact h) (fun _ _ h=>h.elim)
theorem bc.gM (i:Nat) {g:Operand} {fv:ag} {f':Array Operand} {da:Array TypeId} {xs:List ag} (aD:eJ l.toArray m (idxs 0 l)=[i]) (ai:l.toArray[i]? = some o) (ax:o.dst=some d) (aU:t8 d N=true)
  (av:c6 l env o) (b3:o.op = .call { callee := .value g,args:=f',argTypes:=da }) (aw:aM (b4 l env o) g=some fv) (a6:fX (b4 l env o) f'.toList=some xs) (h:dA P fv xs K aef) (I:Ok s L) (ar:aG L K R)
  (aE:∀ x aO,aef (.ret x) aO→Ok s (aO++R)→bc P Γ N l.toArray Q (bZ (m|||2^i)) ((d,x)::env) (aS s (aO++R))) (ab:∀ x aO,aef (.panic x) aO→Ok s (aO++R)→Q (.panic x) [] (aS s (aO++R))):bc P Γ N l.toArray Q (bZ m) env (aS s L):=
 bg.gM aD ai ax aU av b3 aw a6 h I ar (fun _ _ _ _ => .inl trivial) aE ab
end
section
variable {P:Program} {N:Nat} {ops:Array Oper} {Q:b9→Env→ao→Prop} {env:Env} {s:ao} {l:List Oper} {L R:a'}
theorem fN.tG {is:List Nat} (t b:Nat) {n cap:Nat} {T:TypeId} {cs:List ag} (aN:env.get? t=some (ee b n cap)) (ar:s b=some (.box T cs)) (cy:cs.length=cap) (az:n≤cap) (hm:n≤9223372036854775807) (hJ:(cs.take n).all fe=true)
  (h:fN P N ops is Q ((t,.aA 1 (cs.take n) .bb)::env) (s.del b)):fN P N ops is Q env s:=by
 intro ro B a w p aI;obtain ⟨bj,hW,hle,aE⟩:=aI.tG aN ar cy az hm hJ;exact fN.after hle aE h hW
theorem aa.tG (I:Ok s L) (t b:Nat) {n cap:Nat} {T:TypeId} {cs:List ag} (aN:env.get? t=some (ee b n cap)) (ar:bo L (.own b) (.box T cs) R) (cy:cs.length=cap) (az:n≤cap) (hm:n≤9223372036854775807) (hJ:(cs.take n).all fe=true)
  (h:Ok s R→aa P N ops l Q ((t,.aA 1 (cs.take n) .bb)::env) (aS s R)):aa P N ops l Q env (aS s L):=by
 obtain ⟨U,ad⟩:=ar.del I;intro k aE;refine fN.tG t b aN (ar.get I) cy az hm hJ ?_;rw [U];exact h ad k aE
end
section
variable {P:Program} {Γ:cA} {N:Nat} {ops:Array Oper} {Q:b9→Env→ao→Prop} {env:Env} {s:ao} {l:List Oper} {o:Oper} {d:Nat} {L R:a'}
theorem aZ.ej (aP:bQ P Γ) {t e:TypeId} {x y:Operand} {it aH:bO} {b n cap:Nat} {k:IntKind} {i:Int} {j:Nat} (ai:o.op = .indexAddr t x y) (aN:Γ.get? t=some it) (bt:it.bF = .aA e) (bJ:Γ.get? e=some aH)
  (ab:aM env x=some (ee b n cap)) (ay:aM env y=some (.int k i)) (eU:i=(j:Int)) (aL:j<n):aZ P N o env s (fun x aj=>x = .ptr b (j*aH.size)∧aj=s) (fun _ _=>False):=by
 refine aZ.m0 iW fun ro B a w p aI=>?_
 obtain ⟨info,d,U,ad,al,-⟩:=aP.parts aN;obtain ⟨j1,kC,cE,dq,fl,eK,-⟩:=aP.parts bJ;have ax:d = .slice e:=by rw [bt] at al;cases d<;>simp [eB] at al;rw [al]
 subst ax;have aD:=aI.aM ab;have jm:=aI.aM ay;generalize ep:a.eval x=dR at aD;generalize e9:a.eval y=fW at jm;cases jm;subst eU;cases aD;refine .same (val := .pointer (some ⟨b,j*aH.size,none⟩)) ?_ (.ptr b _);unfold execOp;rw [ai];simp only [ep,e9];refine gV ?_;have au:(0:Int)≤(j:Int)∧(j:Int)<(n:Int):=by omega
 simp [Instr.indexAt,asIntOf,run_underlying ad,au.2,sizeOf,typeInfo,cE,eK,lB];intro aV;omega
theorem G9 {w:World} {p:bV} {sz:Nat}:∀ {xss:List (List ag)} {us:List Value},bH w p us xss.flatten→(∀ cs∈xss,cs.length=sz)→∃ vs,bH w p vs (xss.map ag.agg)∧flat vs=us∧∀ v∈vs,v.cells.size=sz
  | [],us,h,_=>by cases h;exact ⟨[],.nil,rfl,by simp⟩
  | cs::r,us,h,aC=>by
    rw [List.flatten_cons] at h;have cy:=aC cs i6;have U:=h.take cs.length;have ad:=h.drop cs.length;rw [List.take_left] at U;rw [List.drop_left] at ad;obtain ⟨vs,g1,g2,g3⟩:=G9 ad fun x ab=>aC x (i0 _ ab)
    refine ⟨.agg (us.take cs.length).toArray::vs,.cons _ _ _ _ (.agg _ _ U) g1,?_,fun v aw=>?_⟩
    · have:flat (Value.agg (us.take cs.length).toArray::vs)=us.take cs.length++flat vs:=by simp [flat,Value.cells]
      rw [this,g2,ai9]
    · rcases af2.1 aw with rfl|aw
      · have:=U.length
        simp only [Value.cells,an1];rw [this,cy]
      · exact g3 v aw
theorem bg.ej {J:ao→Prop} (i:Nat) (aP:bQ P Γ) (cO:J s) {m:Nat} {t e:TypeId} {x y:Operand} {it aH:bO} {b n cap:Nat} {k:IntKind} {z:Int} {j:Nat} (aD:iI l.toArray m i=true) (aR:l.toArray[i]? = some o) (ax:o.dst=some d) (aU:t8 d N=true)
  (av:c6 l env o) (ai:o.op = .indexAddr t x y) (aN:Γ.get? t=some it) (bt:it.bF = .aA e) (bJ:Γ.get? e=some aH)
  (ab:aM (b4 l env o) x=some (ee b n cap)) (ay:aM (b4 l env o) y=some (.int k z)) (eU:z=(j:Int)) (aL:j<n)
  (h:bg J P Γ N l.toArray Q (bZ (m|||2^i)) ((d,.ptr b (j*aH.size))::env) s):bg J P Γ N l.toArray Q (bZ m) env s:=
 bg.si cO aD aR ax aU av (fun _ _=>aZ.ej aP ai aN bt bJ ab ay eU aL) h
end
section
variable {P:Program} {Γ:cA} {N:Nat} {ops:Array Oper} {Q:b9→Env→ao→Prop} {env:Env} {s:ao} {l:List Oper} {o:Oper} {d:Nat}
theorem aZ.pG (aP:bQ P Γ) {t e:TypeId} {x:Operand} {it:bO} {b n cap:Nat} (ai:o.op = .call { callee := .builtin .len,args := #[x],argTypes := #[t] }) (aN:Γ.get? t=some it) (bt:it.bF = .aA e) (ab:aM env x=some (ee b n cap)) :
  aZ P N o env s (fun x aj=>x = .int .i64 n∧aj=s) (fun _ _=>False):=by
 refine aZ.m0 iW fun ro B a w p aI=>?_
 obtain ⟨info,d,U,ad,al,-⟩:=aP.parts aN;have ax:d = .slice e:=by rw [bt] at al;cases d<;>simp [eB] at al;rw [al]
 subst ax;have aD:=aI.aM ab;generalize aw:a.eval x=dR at aD;cases aD;refine .same (val := .int .i64 n) ?_ (.int _ _);unfold execOp;rw [ai];simp [Go.resolve,Go.invoke,Go.builtin,ac',ae6,i5,aw,Builtin.len_,run_underlying ad,goInt]
theorem aa.pG (aP:bQ P Γ) {t e:TypeId} {x:Operand} {it:bO} {b n cap:Nat} (av:guardOf ops env o=some true) (ax:o.dst=some d) (aU:t8 d N=true) (ai:o.op = .call { callee := .builtin .len,args := #[x],argTypes := #[t] }) (aN:Γ.get? t=some it) (bt:it.bF = .aA e) (ab:aM env x=some (ee b n cap))
  (h:aa P N ops l Q ((d,.int .i64 n)::env) s):aa P N ops (o::l) Q env s:=
 aa.op av ax aU (aZ.pG aP ai aN bt ab) (fun x aj ⟨U,ad⟩=>by subst U;subst ad;exact h) (fun _ _ h=>h.elim)
theorem aZ.AT (aP:bQ P Γ) {t e:TypeId} {x y:Operand} {it aH:bO} {b n cap k:Nat} {rr:IntKind} (ai:o.op = .slice t x none (some y) none) (aN:Γ.get? t=some it) (bt:it.bF = .aA e) (bJ:Γ.get? e=some aH) (ab:aM env x=some (ee b n cap)) (ay:aM env y=some (.int rr (k:Int))) (aE:k≤cap) :
  aZ P N o env s (fun x aj=>x=ee b k cap∧aj=s) (fun _ _=>False):=by
 refine aZ.m0 iW fun ro B a w p aI=>?_
 obtain ⟨info,d,U,ad,al,-⟩:=aP.parts aN;obtain ⟨j1,kC,cE,dq,fl,eK,-⟩:=aP.parts bJ;have ax:d = .slice e:=by rw [bt] at al;cases d<;>simp [eB] at al;rw [al]
 subst ax;have aD:=aI.aM ab;have fs:=aI.aM ay;generalize ep:a.eval x=dR at aD;generalize e9:a.eval y=fW at fs;cases aD;cases fs;refine .same (val := .slice (some ⟨b,0,none⟩) k cap) ?_ (.hG _);unfold execOp;rw [ai];simp only [ep,Option.map_none,ao9,e9];refine gV ?_;have az:(0:Int)≤(k:Int):=by omega
 have aB:(k:Int)≤(cap:Int):=by omega
 have an:(Instr.sliceBounds true n cap none (some (.int rr (k:Int))) none).run P w = .ok (0,k,cap) w:=by
  simp [Instr.sliceBounds,run_sliceBound,az,aB]
 simp only [Instr.sliceAt,Instr.slice,ac',run_underlying ad,i5,an,sizeOf,typeInfo,run_program,cE,ae6,eK,av0,Nat.zero_mul];by_cases bq:cap=0
 ·simp [bq]
 ·simp [bq,lB]
theorem aa.AT (aP:bQ P Γ) {t e:TypeId} {x y:Operand} {it aH:bO} {b n cap:Nat} (k:Nat) {rr:IntKind} (av:guardOf ops env o=some true) (ax:o.dst=some d) (aU:t8 d N=true) (ai:o.op = .slice t x none (some y) none) (aN:Γ.get? t=some it) (bt:it.bF = .aA e) (bJ:Γ.get? e=some aH)
  (ab:aM env x=some (ee b n cap)) (ay:aM env y=some (.int rr (k:Int))) (aE:k≤cap) (h:aa P N ops l Q ((d,ee b k cap)::env) s):aa P N ops (o::l) Q env s:=
 aa.op av ax aU (aZ.AT aP ai aN bt bJ ab ay aE) (fun x aj ⟨U,ad⟩=>by subst U;subst ad;exact h) (fun _ _ h=>h.elim)
theorem aa.ej (aP:bQ P Γ) {t e:TypeId} {x y:Operand} {it aH:bO} {b n cap:Nat} {k:IntKind} {i:Int} (j:Nat) (av:guardOf ops env o=some true) (ax:o.dst=some d) (aU:t8 d N=true) (ai:o.op = .indexAddr t x y) (aN:Γ.get? t=some it) (bt:it.bF = .aA e) (bJ:Γ.get? e=some aH)
  (ab:aM env x=some (ee b n cap)) (ay:aM env y=some (.int k i)) (eU:i=(j:Int)) (aL:j<n) (h:aa P N ops l Q ((d,.ptr b (j*aH.size))::env) s):aa P N ops (o::l) Q env s:=
 aa.op av ax aU (aZ.ej aP ai aN bt bJ ab ay eU aL) (fun x aj ⟨U,ad⟩=>by subst U;subst ad;exact h) (fun _ _ h=>h.elim)
end
theorem UA {m n:Nat} (hm:m<2^64) (az:n<2^64):m|||n<2^64:=aj4 hm az
theorem LO {m n:Nat} (hm:m<2^64):m &&& n<2^64:=ak1 av3 hm
def k9 (m n:Nat):Nat:=m &&& (18446744073709551615 ^^^ n)
theorem sn (m:Nat):ak4 64 (m:Int)=aA' 64 m:=by
 apply BitVec.eq_of_toNat_eq;rw [BitVec.toNat_ofInt,al3];omega
theorem wrap64 {m:Nat} (h:m<2^64):t7 .u64 (m:Int)=(m:Int):=by
 unfold t7;simp [am7,az0];omega
section
variable {P:Program} {N:Nat} {ops:Array Oper} {Q:b9→Env→ao→Prop} {env:Env} {s:ao} {l:List Oper} {o:Oper} {d:Nat}
theorem aZ.shl {t yt:TypeId} {x y:Operand} {k k':IntKind} {a b r:Int} (ai:o.op = .binOp .shl t x y yt) (ab:aM env x=some (.int k a)) (ay:aM env y=some (.int k' b)) (an:0≤b) (aD:k.wrap (a*2^(min b.toNat k.bits))=r) :
  aZ P N o env s (fun x aj=>x = .int k r∧aj=s) (fun _ _=>False):=by
 refine aZ.m0 iW fun ro B c7 w p aI=>?_
 have U:=aI.aM ab;have ad:=aI.aM ay;generalize ep:c7.eval x=dR at U;generalize e9:c7.eval y=fW at ad;cases U;cases ad;refine tt (v := .int k r) ai ?_ ?_ (.int _ _)
 ·rw [ep,e9];unfold eqGuard;simp
 ·rw [ep,e9]
  have dO:¬ b<0:=by omega
  simp only [binOp,Op.shift,dO,ah',aD];rfl
theorem aZ.shr {t yt:TypeId} {x y:Operand} {k k':IntKind} {a b r:Int} (ai:o.op = .binOp .shr t x y yt) (ab:aM env x=some (.int k a)) (ay:aM env y=some (.int k' b)) (an:0≤b) (aD:a.fdiv (2^(min b.toNat k.bits))=r) :
  aZ P N o env s (fun x aj=>x = .int k r∧aj=s) (fun _ _=>False):=by
 refine aZ.m0 iW fun ro B c7 w p aI=>?_
 have U:=aI.aM ab;have ad:=aI.aM ay;generalize ep:c7.eval x=dR at U;generalize e9:c7.eval y=fW at ad;cases U;cases ad;refine tt (v := .int k r) ai ?_ ?_ (.int _ _)
 ·rw [ep,e9];unfold eqGuard;simp
 ·rw [ep,e9]
  have dO:¬ b<0:=by omega
  simp only [binOp,Op.shift,dO,ah',aD];rfl
def bitsOf (op:BinOp) (k:IntKind) (a b:Int):Option Int:=match op with
 | .and=>some (k.wrap (ak4 k.bits a &&& ak4 k.bits b).toNat)
 | .or=>some (k.wrap (ak4 k.bits a|||ak4 k.bits b).toNat)
 | .xor=>some (k.wrap (ak4 k.bits a ^^^ ak4 k.bits b).toNat)
 | .andNot=>some (k.wrap (ak4 k.bits a &&& ~~~(ak4 k.bits b)).toNat)
 | _=>none
theorem aZ.bits {op:BinOp} {t yt:TypeId} {x y:Operand} {k:IntKind} {a b r:Int} (ai:o.op = .binOp op t x y yt) (ab:aM env x=some (.int k a)) (ay:aM env y=some (.int k b)) (aD:bitsOf op k a b=some r) :
  aZ P N o env s (fun x aj=>x = .int k r∧aj=s) (fun _ _=>False):=by
 refine aZ.m0 iW fun ro B c7 w p aI=>?_
 have U:=aI.aM ab;have ad:=aI.aM ay;generalize ep:c7.eval x=dR at U;generalize e9:c7.eval y=fW at ad;cases U;cases ad;refine tt (v := .int k r) ai ?_ ?_ (.int _ _)
 ·rw [ep,e9];unfold eqGuard;cases op<;>first|rfl|(cases aD;done)
 ·rw [ep,e9]
  cases op<;>simp only [bitsOf] at aD<;>first|(cases aD;done)|(cases aD;simp only [binOp,ne_eq,not_true_eq_false,ah',Op.intBits];rfl)
theorem aa.shl {t yt:TypeId} {x y:Operand} {k k':IntKind} {a b:Int} (r:Int) (av:guardOf ops env o=some true) (ax:o.dst=some d) (aU:t8 d N=true) (ai:o.op = .binOp .shl t x y yt) (ab:aM env x=some (.int k a)) (ay:aM env y=some (.int k' b)) (an:0≤b) (aD:k.wrap (a*2^(min b.toNat k.bits))=r)
  (h:aa P N ops l Q ((d,.int k r)::env) s):aa P N ops (o::l) Q env s:=
 aa.op av ax aU (aZ.shl ai ab ay an aD) (fun x aj ⟨U,ad⟩=>by subst U;subst ad;exact h) (fun _ _ h=>h.elim)
theorem aa.shr {t yt:TypeId} {x y:Operand} {k k':IntKind} {a b:Int} (r:Int) (av:guardOf ops env o=some true) (ax:o.dst=some d) (aU:t8 d N=true) (ai:o.op = .binOp .shr t x y yt) (ab:aM env x=some (.int k a)) (ay:aM env y=some (.int k' b)) (an:0≤b) (aD:a.fdiv (2^(min b.toNat k.bits))=r)
  (h:aa P N ops l Q ((d,.int k r)::env) s):aa P N ops (o::l) Q env s:=
 aa.op av ax aU (aZ.shr ai ab ay an aD) (fun x aj ⟨U,ad⟩=>by subst U;subst ad;exact h) (fun _ _ h=>h.elim)
theorem aa.bits {op:BinOp} {t yt:TypeId} {x y:Operand} {k:IntKind} {a b:Int} (r:Int) (av:guardOf ops env o=some true) (ax:o.dst=some d) (aU:t8 d N=true) (ai:o.op = .binOp op t x y yt) (ab:aM env x=some (.int k a)) (ay:aM env y=some (.int k b)) (aD:bitsOf op k a b=some r)
  (h:aa P N ops l Q ((d,.int k r)::env) s):aa P N ops (o::l) Q env s:=
 aa.op av ax aU (aZ.bits ai ab ay aD) (fun x aj ⟨U,ad⟩=>by subst U;subst ad;exact h) (fun _ _ h=>h.elim)
end
theorem wZ {m n:Nat} (hm:m<2^64) (az:n<2^64):bitsOf .or .u64 (m:Int) (n:Int)=some ((m|||n:Nat):Int):=by
 show some (t7 .u64 ((ak4 64 (m:Int)|||ak4 64 (n:Int)).toNat:Int))=_;rw [sn,sn,aC3,al3,al3,am0 hm,am0 az,wrap64 (UA hm az)]
theorem u1 {m n:Nat} (hm:m<2^64) (az:n<2^64):bitsOf .and .u64 (m:Int) (n:Int)=some ((m &&& n:Nat):Int):=by
 show some (t7 .u64 ((ak4 64 (m:Int) &&& ak4 64 (n:Int)).toNat:Int))=_;rw [sn,sn,ax9,al3,al3,am0 hm,am0 az,wrap64 (LO hm)]
theorem G' {m:Nat} (h:m<2^63):t7 .i64 (m:Int)=(m:Int):=by
 unfold t7;simp [am7,az0];omega
theorem UB {m n:Nat} (hm:m<2^63) (az:n<2^63):bitsOf .or .i64 (m:Int) (n:Int)=some ((m|||n:Nat):Int):=by
 show some (t7 .i64 ((ak4 64 (m:Int)|||ak4 64 (n:Int)).toNat:Int))=_;rw [sn,sn,aC3,al3,al3,am0 af,am0 af,G' (aj4 hm az)]
theorem AU {m n:Nat} (hm:m<2^63) (az:n<2^63):bitsOf .and .i64 (m:Int) (n:Int)=some ((m &&& n:Nat):Int):=by
 show some (t7 .i64 ((ak4 64 (m:Int) &&& ak4 64 (n:Int)).toNat:Int))=_;rw [sn,sn,ax9,al3,al3,am0 af,am0 af,G' (ak1 av3 hm)]
theorem DO {m n:Nat} (hm:m<2^64) (az:n<2^64):bitsOf .andNot .u64 (m:Int) (n:Int)=some ((k9 m n:Nat):Int):=by
 show some (t7 .u64 ((ak4 64 (m:Int) &&& ~~~(ak4 64 (n:Int))).toNat:Int))=_;rw [sn,sn];unfold k9;have h:(aA' 64 m &&& ~~~(aA' 64 n)).toNat=m &&& (18446744073709551615 ^^^ n):=by
  rw [ax9,BitVec.toNat_not,al3,al3,am0 hm,am0 az];apply an7;intro i;rw [al9,al9,Nat.testBit_xor];have ad:2^64-1-n=2^64-(n+1):=by omega
  rw [ad,Nat.testBit_two_pow_sub_succ az,show (18446744073709551615:Nat)=2^64-1 from rfl,ai3];by_cases aR:i<64
  ·simp [aR]
  ·have:m.testBit i=false:=an0 (al2 hm (ag2 af af))
   simp [this]
 rw [h,wrap64 (LO hm)]
theorem DP {c:Nat} (h:c<64):t7 .u64 (1*2^(min (c:Int).toNat (am7 .u64)))=((2^c:Nat):Int):=by
 have U:min (c:Int).toNat (am7 .u64)=c:=by simp [am7];omega
 rw [U];have ad:(1*2^c:Int)=((2^c:Nat):Int):=by push_cast;omega
 rw [ad,wrap64 (ai' af h)]
theorem tJ {m c:Nat} (h:c<64):Int.fdiv (m:Int) (2^(min (c:Int).toNat (am7 .u64)))=((m >>> c:Nat):Int):=by
 have U:min (c:Int).toNat (am7 .u64)=c:=by simp [am7];omega
 rw [U,Nat.shiftRight_eq_div_pow];have ad:(2^c:Int)=((2^c:Nat):Int):=by push_cast;rfl
 rw [ad,Int.fdiv_eq_ediv_of_nonneg _ (Int.natCast_nonneg _)];rfl
theorem ae.b5 {P:Program} {N:Nat} {Q:b9→Env→ao→Prop} {env:Env} {s:ao} {L:a'} {σ:Type} {c:Code} (gw:List Nat) {AV:Env} (aE:wR gw env []=(AV,())) (I:Ok s L) (dJ:σ→Env) (K:σ→a') (aej:σ→Prop) (μ:σ→Nat) (ov:σ) {GO:a'} (aq:aej ov) (eS:Env.Sub (dJ ov) env) (ck:aG L (K ov) GO)
  (round:∀ x,aej x→Ok s (K x)→ae P N c (b9.andThen (bn s (fun z=>dJ z++AV) K aej (fun y=>μ y<μ x)) Q) (dJ x++AV) (aS s (K x))):ae P N (.loop c) Q env (aS s L):=
 ae.yJ I (fun z=>dJ z++AV) K aej μ ov aq (eS.append (AI gw [] AV trivial aE)) ck round
section
variable {P:Program} {Γ:cA} {N:Nat} {ops:Array Oper} {Q:b9→Env→ao→Prop} {env:Env} {s:ao} {l:List Oper} {o:Oper} {d:Nat}
theorem aZ.arr (aP:bQ P Γ) {t e:TypeId} {x y:Operand} {it aH:bO} {k:IntKind} {len b off j:Nat} {i:Int} (ai:o.op = .indexAddr t x y) (aN:Γ.get? t=some it) (bt:it.bF = .arr len e) (bJ:Γ.get? e=some aH) (ab:aM env x=some (.ptr b off)) (ay:aM env y=some (.int k i)) (eU:i=(j:Int)) (aL:j<len) :
  aZ P N o env s (fun x aj=>x = .ptr b (off+j*aH.size)∧aj=s) (fun _ _=>False):=by
 obtain ⟨info,w0,U,ad,al,-⟩:=aP.parts aN;obtain ⟨j1,kC,cE,dq,fl,eK,-⟩:=aP.parts bJ;obtain rfl:=Ab (al.trans bt);refine aZ.m0 iW fun ro B a w p aI=>?_
 have U:=aI.aM ab;have ox:=aI.aM ay;generalize ep:a.eval x=dR at U;generalize e9:a.eval y=fW at ox;cases U;cases ox;subst eU;refine .same (val := .pointer (some ⟨b,off+j*aH.size,none⟩)) ?_ (.ptr b _);unfold execOp;rw [ai];simp only [ep,e9];refine gV ?_;simp [Instr.indexAt,asIntOf,run_underlying ad,aL,sizeOf,typeInfo,cE,eK,lB,Instr.sureAddr]
theorem aZ.l9 (aP:bQ P Γ) {t e:TypeId} {x y:Operand} {it aH:bO} {k:IntKind} {len off j:Nat} {cs:List ag} {i:Int} (ai:o.op = .indexAddr t x y) (aN:Γ.get? t=some it) (bt:it.bF = .arr len e) (bJ:Γ.get? e=some aH) (ab:aM env x=some (.bw cs off)) (ay:aM env y=some (.int k i)) (eU:i=(j:Int)) (aL:j<len) :
  aZ P N o env s (fun x aj=>x = .bw cs (off+j*aH.size)∧aj=s) (fun _ _=>False):=by
 obtain ⟨info,w0,U,ad,al,-⟩:=aP.parts aN;obtain ⟨j1,kC,cE,dq,fl,eK,-⟩:=aP.parts bJ;obtain rfl:=Ab (al.trans bt);refine aZ.m0 iW fun ro B a w p aI=>?_
 have U:=aI.aM ab;have ox:=aI.aM ay;generalize ep:a.eval x=dR at U;generalize e9:a.eval y=fW at ox;cases ox;subst eU;cases U with
 | bw b base o' _ vs _ cD aB aD=>
 refine .same (val := .pointer (some ⟨b,o'+j*aH.size,none⟩)) ?_ (.bw b base _ _ vs cs af aB aD);unfold execOp;rw [ai];simp only [ep,e9];refine gV ?_;simp [Instr.indexAt,asIntOf,run_underlying ad,aL,sizeOf,typeInfo,cE,eK,lB,Instr.sureAddr]
theorem aa.arr (aP:bQ P Γ) {t e:TypeId} {x y:Operand} {it aH:bO} {k:IntKind} {len b off:Nat} {i:Int} (j:Nat) (av:guardOf ops env o=some true) (ax:o.dst=some d) (aU:t8 d N=true) (ai:o.op = .indexAddr t x y) (aN:Γ.get? t=some it) (bt:it.bF = .arr len e) (bJ:Γ.get? e=some aH) (ab:aM env x=some (.ptr b off)) (ay:aM env y=some (.int k i)) (eU:i=(j:Int)) (aL:j<len)
  (h:aa P N ops l Q ((d,.ptr b (off+j*aH.size))::env) s):aa P N ops (o::l) Q env s:=
 aa.op av ax aU (aZ.arr aP ai aN bt bJ ab ay eU aL) (fun x aj ⟨U,ad⟩=>by subst U;subst ad;exact h) (fun _ _ h=>h.elim)
theorem aa.l9 (aP:bQ P Γ) {t e:TypeId} {x y:Operand} {it aH:bO} {k:IntKind} {len off:Nat} {cs:List ag} {i:Int} (j:Nat) (av:guardOf ops env o=some true) (ax:o.dst=some d) (aU:t8 d N=true) (ai:o.op = .indexAddr t x y) (aN:Γ.get? t=some it) (bt:it.bF = .arr len e) (bJ:Γ.get? e=some aH) (ab:aM env x=some (.bw cs off)) (ay:aM env y=some (.int k i)) (eU:i=(j:Int)) (aL:j<len)
  (h:aa P N ops l Q ((d,.bw cs (off+j*aH.size))::env) s):aa P N ops (o::l) Q env s:=
 aa.op av ax aU (aZ.l9 aP ai aN bt bJ ab ay eU aL) (fun x aj ⟨U,ad⟩=>by subst U;subst ad;exact h) (fun _ _ h=>h.elim)
end
def mK (first i:Int):List Int→List Int→Bool
 | _,[]=>true
 | seen,c::r=>decide (c≥first)&&(decide (c<first+i)&&(!seen.contains c&&mK first i (seen++[c]) r))
def oJ:Nat→List (List Int)→Bool
 | _,[]=>true
 | i,l::r=>decide (l.length≤3)&&(mK 3 i [] l&&oJ (i+1) r)
def mL (g:List (List Int)):Bool:=decide (g.length≤16)&&oJ 0 g
def fD (n:Int) (l:List Int):List Int:=l.filter fun x=>x != n
def free (all:List (List Int)) (c:Int):Bool:=all.all fun l => !(l.drop 1).contains c
def pick (all:List (List Int)):List (List Int)→Option Int
 | []=>none
 | []::r=>pick all r
 | (c::_)::r=>if free all c then some c else pick all r
def total (all:List (List Int)):Nat:=(all.map List.length).sum
def merge:Nat→List (List Int)→List Int→List Int×Bool
  | 0,_,acc=>(acc,false)
  | k+1,all,acc=>match pick all all with
    | none=>(acc,all.all ap')
    | some c=>merge k (all.map (fD c)) (acc++[c])
def merged (all:List (List Int)):List Int×Bool:=merge (total all+1) all []
def parents (g:List (List Int)) (c:Nat):List Int:=if c<3 then [] else g.getD (c-3) []
def iY (fK:List (List Int)):List Int→Option (List (List Int))
 | []=>some []
 | p::r=>if (fK.getD p.toNat []).isEmpty then none else (iY fK r).map fun l=>fD 0 (fK.getD p.toNat [])::l
def lists (g:List (List Int)) (fK:List (List Int)) (c:Nat):Option (List (List Int)):=(iY fK (parents g c)).map fun l=>l++[parents g c]
def order (g:List (List Int)) (fK:List (List Int)) (c:Nat):List Int:=match lists g fK c with
 | none=>[]
 | some all=>if (merged all).2 then (c:Int)::(merged all).1++[0] else []
def fK (g:List (List Int)):Nat→List (List Int)
 | 0=>[[0]]
 | k+1=>fK g k++[order g (fK g k) (k+1)]
theorem tK (g:List (List Int)):∀ k,(fK g k).length=k+1
 | 0=>rfl
 | k+1=>by rw [fK,f6,tK g k];rfl
theorem yM (n:Int) (l:List Int):(fD n l).length≤l.length:=aj2 ..
theorem UC (n:Int) (l:List Int):fD n (n::l)=fD n l:=by unfold fD;simp
theorem UD (n:Int) (all:List (List Int)):total (all.map (fD n))≤total all:=by
 unfold total
 induction all with
 | nil=>exact g8 _
 | cons l r a1=>
  have:=yM n l;simp only [ae3,List.sum_cons] at a1 ⊢;omega
theorem DQ {n:Int} {all:List (List Int)} (h:∃ t,n::t∈all):total (all.map (fD n))<total all:=by
 obtain ⟨t,h⟩:=h
 induction all with
 | nil=>cases h
 | cons l r a1=>
  have bq:total (l::r)=l.length+total r:=rfl;have U:total ((l::r).map (fD n))=(fD n l).length+total (r.map (fD n)):=rfl;rw [bq,U];rcases af2.1 h with rfl|h
  ·have ad:=yM n t
   have al:=UD n r;rw [UC,g9];omega
  ·have:=a1 h
   have:=yM n l;omega
theorem u2 {all:List (List Int)} {c:Int}:∀ {l:List (List Int)},pick all l=some c→∃ t,c::t∈l
  | [],h=>by cases h
  | []::r,h=>by
    obtain ⟨t,h⟩:=u2 (l:=r) h;exact ⟨t,i0 _ h⟩
  | (d::q)::r,h=>by
    rw [pick] at h;split at h
    · cases h;exact ⟨q,i6⟩
    · obtain ⟨t,h⟩:=u2 (l:=r) h
      exact ⟨t,i0 _ h⟩
structure bP where
 atom:Int
 no:Int
 yes:Int
 ms:List Int
 deriving DecidableEq,Inhabited
def tL:List Int→Bool
 | []=>true
 | [x]=>decide (x≥0)
 | x::y::r=>decide (x≥0)&&(decide (x<y)&&tL (y::r))
def mM (len i:Nat) (x:bP):Bool:=
 if x.atom = -1 then decide (x.no=0)&&(decide (x.yes=0)&&(decide (x.ms.length≤16)&&tL x.ms))
 else decide (x.atom≥0)&&(decide (x.atom<7)&&(decide (x.no>i)&&(decide (x.no<len)&&(decide (x.yes>i)&&(decide (x.yes<len)&&x.ms.isEmpty)))))
def tM (len:Nat):Nat→List bP→Bool
 | _,[]=>true
 | i,x::r=>mM len i x&&tM len (i+1) r
def jI (g:List bP):Bool:=decide (1≤g.length)&&(decide (g.length≤300)&&tM g.length 0 g)
def gB:Nat→List bP→List Int
 | _,[]=>[]
 | i,x::r=>
  let h:=gB (i+1) r
  (if x.atom≥0 then 1+max (h.getD (x.no.toNat-(i+1)) 0) (h.getD (x.yes.toNat-(i+1)) 0) else 0)::h
def gZ (g:List bP):Int:=(gB 0 g).getD 0 0
def mN {α:Type} (f:Nat→α→Bool):Nat→List α→Option Nat
  | _,[]=>none
  | k,x::r=>match mN f (k+1) r with
    | some j=>some j
    | none=>if f k x then some k else none
def cd:Nat→List bP→List Int×List bP
 | _,[]=>([],[])
 | i,x::r=>
  let p:=cd (i+1) r
  let y:bP:=if x.atom≥0 then { x with no:=p.1.getD (x.no.toNat-(i+1)) 0,yes:=p.1.getD (x.yes.toNat-(i+1)) 0 } else x
  let k:Int:=match mN (fun k z=>p.1.getD k 0==((i+1+k:Nat):Int)&&z==y) 0 p.2 with
   | some k=>((i+1+k:Nat):Int)
   | none=>(i:Int)
  (k::p.1,y::p.2)
def meet (g:List bP):Nat→List Int→Int→List Int
 | 0,order,_=>order
 | k+1,order,eX=>
  if order.contains eX then order
  else
   let x:=g.getD eX.toNat default
   (if x.atom≥0 then meet g k (meet g k order x.yes) x.no else order)++[eX]
def placeOf (l:List Int) (n:Int):Int:=((l.findIdx? (· == n)).getD 0:Nat)
def small (g:List bP):List bP:=
 let p:=cd 0 g
 let order:=meet p.2 (g.length+1) [] (p.1.getD 0 0)
 order.reverse.map fun eX=>
  let x:=p.2.getD eX.toNat default
  if x.atom≥0 then { x with no:=(order.length:Int)-1-placeOf order x.no,yes:=(order.length:Int)-1-placeOf order x.yes } else x
inductive ak where
 | mk (op arg:Int) (path:List Int) (cls n:Int) (kids:List ak)
namespace ak
def op:ak→Int | .mk o _ _ _ _ _=>o
def arg:ak→Int | .mk _ a _ _ _ _=>a
def path:ak→List Int | .mk _ _ p _ _ _=>p
def cls:ak→Int | .mk _ _ _ c _ _=>c
def n:ak→Int | .mk _ _ _ _ n _=>n
def kids:ak→List ak | .mk _ _ _ _ _ k=>k
mutual
def size:ak→Nat
 | .mk _ _ p _ _ ks=>1+p.length+hN ks
def hN:List ak→Nat
 | []=>0
 | k::r=>k.size+hN r
end
theorem size_eq (x:ak):x.size=1+x.path.length+hN x.kids:=by cases x;rw [size];rfl
theorem h8:∀ {l:List ak} {x:ak},x∈l→x.size≤hN l
  | k::r,x,h=>by
    rw [hN];rcases af2.1 h with rfl|h
    · omega
    · have:=h8 h;omega
theorem qq:∀ l:List ak,l.length≤hN l
 | []=>g8 _
 | k::r=>by have:=qq r;rw [hN,g9,size_eq];omega
instance:Inhabited ak:=⟨.mk 0 0 [] 0 0 []⟩
mutual
def same:ak→ak→Bool
 | .mk o a p c n ks,.mk o' c7 bj pH n' DR=>decide (o=o')&&(decide (a=c7)&&(decide (c=pH)&&(decide (n=n')&&(p==bj&&pI ks DR))))
def pI:List ak→List ak→Bool
 | [],[]=>true
 | x::r,y::t=>same x y&&pI r t
 | _,_=>false
end
mutual
theorem LP:∀ (x y:ak),same x y=true↔x=y
  | .mk o a p c n ks,.mk o' c7 bj pH n' DR=>by
    rw [same];simp only [f8,i8,al6,LQ ks DR,ak.mk.injEq];constructor
    · rintro ⟨U,ad,al,bf,bE,hf⟩;exact ⟨U,ad,bE,al,bf,hf⟩
    · rintro ⟨U,ad,bE,al,bf,hf⟩;exact ⟨U,ad,al,bf,bE,hf⟩
theorem LQ:∀ (x y:List ak),pI x y=true↔x=y
  | [],[]=>by simp [pI]
  | [],y::t=>by simp [pI]
  | x::r,[]=>by simp [pI]
  | x::r,y::t=>by
    rw [pI,f8,LP x y,LQ r t,List.cons.injEq]
end
def c5 (f:ak):Bool:=decide (f.op≥2)&&decide (f.op≤4)
def not (f:ak):ak := .mk 5 0 [] 0 0 [f]
def and (f g:ak):ak := .mk 6 0 [] 0 0 [f,g]
end ak
structure bz where
 ps:List (List Int)
 owner:List Int
structure iZ where
 slot:Int
 n:Int
structure fR where
 parents:List Int
 bp:List Int
 inits:List iZ
 deriving Inhabited
structure h9 where
 kind:Int
 gen:Int
 fact:ak
 node:Int
 deriving Inhabited
structure i' where
 op:Int
 n:Int
 kids:List Int
 deriving Inhabited
structure bT where
 cm:List fR
 bp:Int
 ef:List Int
 methods:List h9
 nodes:List i'
 main:Int
structure eV where
 cls:Int
 bp:List (Int×Int)
 deriving Inhabited
def so (op:Int):Nat:=if op=5 then 1 else if op=6∨op=7 then 2 else 0
def kN (n:Int):Bool:=decide (n ≥ -1000000000)&&decide (n≤1000000000)
def ik (w:bz) (f:ak):Bool:=
 decide (f.op≥1)&&(decide (f.op≤7)&&(decide (f.kids.length=so f.op) &&
  (if f.c5 then
   decide (f.arg≥0)&&(decide (f.arg<3)&&(decide (f.path.length≤2)&&(f.path.all (fun s=>decide (s≥0)&&decide (s<w.owner.length)) &&
    (if f.op=2 then decide (f.n=0)&&(decide (f.cls≥0)&&decide (f.cls<3+w.ps.length)) else decide (f.cls=0)&&kN f.n))))
  else decide (f.arg=0)&&(decide (f.path.length=0)&&(decide (f.cls=0)&&decide (f.n=0))))))
mutual
def fb (w:bz) (d:Nat) (k:Int):ak→Bool×Int
 | .mk o a p c n ks=>
  if decide (k-1<0)||decide (d=0) then (false,k-1)
  else if ik w (.mk o a p c n ks) then hj w (d-1) (k-1) ks else (false,k-1)
def hj (w:bz) (d:Nat) (k:Int):List ak→Bool×Int
 | []=>(true,k)
 | x::r=>if (fb w d k x).1 then hj w d (fb w d k x).2 r else (false,(fb w d k x).2)
end
def iJ (w:bz) (f:ak):Bool:=(fb w 12 24 f).1
def w1:Nat→List (List Int)→Bool
 | _,[]=>true
 | i,l::r=>mK 3 i [] l&&w1 (i+1) r
structure gz (w:bz):Prop where
 ja:w.ps.length≤60
 short:∀ l∈w.ps,l.length≤3
 oK:w1 0 w.ps=true
 bp:w.owner.length≤40
 own:∀ o∈w.owner,3≤o∧o<3+(w.ps.length:Int)
def sq (up:List Nat) (l:List Int):Nat:=l.foldl (fun s p=>s|||up.getD p.toNat 0) (1|||2^up.length)
def j9:List Nat→List (List Int)→List Nat
 | up,[]=>up
 | up,l::r=>j9 (up++[sq up l]) r
def eY (ps:List (List Int)):List Nat:=j9 [1,3,5] ps
theorem LR:∀ (ps:List (List Int)) (up:List Nat),(j9 up ps).length=up.length+ps.length
 | [],up=>rfl
 | l::r,up=>by rw [j9,LR r,f6,ag8,g9];omega
theorem tN (ps:List (List Int)):(eY ps).length=3+ps.length:=LR ps _
theorem DS:∀ {ps:List (List Int)} {i j:Nat} {l:List Int},w1 i ps=true→ps[j]? = some l→mK 3 ((i+j:Nat):Int) [] l=true
  | l::r,i,0,x,h,ab=>by
    rw [w1,f8] at h;have:l=x:=by simpa using ab
    subst this;exact h.1
  | l::r,i,j+1,x,h,ab=>by
    rw [w1,f8] at h;have:=DS (j:=j) h.2 vU;rw [show i+(j+1)=i+1+j by omega];exact this
theorem DT {i:Int}:∀ {l seen:List Int} {k:Nat} {p:Int},mK 3 i seen l=true→l[k]? = some p→3≤p∧p<3+i∧p∉seen++l.take k
  | c::r,seen,0,p,h,aF=>by
    rw [mK] at h;simp only [f8,i8,Bool.not_eq_true',List.contains_eq_mem,decide_eq_false_iff_not] at h;have:c=p:=by simpa using aF
    subst this;refine ⟨h.1,h.2.1,by simpa using h.2.2.1⟩
  | c::r,seen,k+1,p,h,aF=>by
    rw [mK] at h;simp only [f8,i8] at h;have:=DT (k:=k) h.2.2.2 (by simpa using aF);refine ⟨this.1,this.2.1,?_⟩;rw [List.take_succ_cons];have al:=this.2.2;simpa using al
theorem Ha {m n:Nat} (h:m<2^64) (k:n<2^64):m|||n<2^64:=aj4 h k
theorem UE {up:List Nat} (h:∀ m∈up,m<2^64) (k:Nat):up.getD k 0<2^64:=by
 rw [d7];cases ab:up[k]? with
 | none=>exact Nat.two_pow_pos 64
 | some x=>exact h x (d5 ab)
theorem Hb {up:List Nat} (h:∀ m∈up,m<2^64):∀ (l:List Int) (s:Nat),s<2^64→l.foldl (fun s p=>s|||up.getD p.toNat 0) s<2^64
 | [],s,ar=>ar
 | p::r,s,ar=>Hb h r _ (Ha ar (UE h _))
theorem UF {up:List Nat} (h:∀ m∈up,m<2^64) (aC:up.length<64) (l:List Int):sq up l<2^64:=
 Hb h l _ (Ha du (ai' af aC))
theorem LS:∀ (ps:List (List Int)) (up:List Nat),(∀ m∈up,m<2^64)→up.length+ps.length<64→∀ m∈j9 up ps,m<2^64
  | [],up,h,_=>h
  | l::r,up,h,aC=>by
    rw [g9] at aC;rw [j9];refine LS r _ (fun m hm=>?_) (by rw [f6,ag8];omega);rcases ae'.1 hm with hm|hm
    · exact h m hm
    · rw [H1] at hm;subst hm
      exact UF h af l
theorem yN {ps:List (List Int)} (h:ps.length≤60):∀ m∈eY ps,m<2^64:=
 LS ps _ (by intro m hm;simp at hm;rcases hm with rfl|rfl|rfl<;>decide) cV
theorem LU (l:List Int):∀ (ps:List (List Int)) (up:List Nat),j9 up (ps++[l])=j9 up ps++[sq (j9 up ps) l]
 | [],up=>rfl
 | x::r,up=>by rw [aa',j9,LU l r,← j9]
theorem LV (ps:List (List Int)) (l:List Int):eY (ps++[l])=eY ps++[sq (eY ps) l]:=LU l ps _
def pad (u:List Nat):List Nat:=u++t6 (63-u.length) 0
theorem UG {u:List Nat} (h:u.length≤63):(pad u).length=63:=by unfold pad;simp;omega
theorem yO {u:List Nat} {i:Nat} {m:Nat} (h:u[i]? = some m):(pad u)[i]? = some m:=by
 unfold pad;rw [ag0 (ae2.1 h).1];exact h
theorem UH {u:List Nat} (h:u.length<63) (v:Nat):(pad u).set u.length v=pad (u++[v]):=by
 unfold pad;rw [List.set_append_right _ _ (g8 _),ap9,ah0,f6,ag8];congr 1;obtain ⟨n,az⟩:∃ n,63-u.length=n+1:=⟨62-u.length,by omega⟩;have ad:63-(u.length+1)=n:=by omega
 rw [az,ad,List.replicate_succ];rfl
mutual
def gH (w:bz):ak→Bool
 | .mk o a p c n ks=>ik w (.mk o a p c n ks)&&j' w ks
def j' (w:bz):List ak→Bool
 | []=>true
 | x::r=>gH w x&&j' w r
end
theorem oL (w:bz) (f:ak):gH w f=(ik w f&&j' w f.kids):=by cases f;rw [gH];rfl
theorem kr {w:bz}:∀ {l:List ak} {x:ak},j' w l=true→x∈l→gH w x=true
  | y::r,x,h,ab=>by
    rw [j',f8] at h;rcases af2.1 ab with rfl|ab
    · exact h.1
    · exact kr h.2 ab
mutual
theorem sr:∀ (f:ak) (w:bz) (d:Nat) (k:Int),(fb w d k f).1=true→gH w f=true
  | .mk o a p c n ks,w,d,k,h=>by
    rw [fb] at h;split at h
    · cases h
    · split at h
      · rename_i az
        rw [gH,az,f5];exact LW ks w _ _ h
      · cases h
theorem LW:∀ (l:List ak) (w:bz) (d:Nat) (k:Int),(hj w d k l).1=true→j' w l=true
  | [],_,_,_,_=>rfl
  | x::r,w,d,k,h=>by
    rw [hj] at h;split at h
    · rename_i ab
      rw [j',sr x w d k ab,LW r w d _ h];rfl
    · cases h
end
mutual
def lI:ak→Int
 | .mk o a p c n ks=>jb (if (ak.mk o a p c n ks).c5 then a+1 else 0) ks
def jb (m:Int):List ak→Int
 | []=>m
 | x::r=>jb (max m (lI x)) r
end
theorem DU (f:ak):lI f=jb (if f.c5 then f.arg+1 else 0) f.kids:=by cases f;rw [lI];rfl
theorem LX:∀ (l r:List ak) (m:Int),jb m (l++r)=jb (jb m l) r
 | [],r,m=>by rw [d8,jb]
 | x::l,r,m=>by rw [aa',jb,jb,LX l r]
theorem DV:∀ (l:List ak) (m:Int),m≤jb m l∧∀ x∈l,lI x≤jb m l
  | [],m=>⟨by rw [jb];exact ak9 _,fun x h=>by cases h⟩
  | x::r,m=>by
    have a1:=DV r (max m (lI x));rw [jb];refine ⟨by have:=a1.1;omega,fun y ay=>?_⟩;rcases af2.1 ay with rfl|ay
    · have:=a1.1;omega
    · exact a1.2 y ay
def hO (n:Int) (v:Int×Int):Bool:=
 if v.1=1 then kN v.2 else if v.1=2 then decide (v.2=0) else decide (v.1=3)&&(decide (v.2≥0)&&decide (v.2<n))
def oM (w:bz) (m:Nat):List Int:=((List.range w.owner.length).filter fun s=>m.testBit (w.owner.getD s 0).toNat).map fun (s:Nat)=>(s:Int)
def yP (w:bz) (c:Int):Bool:=decide (c≥3)&&decide (c<3+(w.ps.length:Int))
def AW (w:bz) (n:Int) (o:eV):Bool:=yP w o.cls&&(decide (o.bp.length=(oM w ((eY w.ps).getD o.cls.toNat 0)).length)&&o.bp.all (hO n))
def AX (w:bz) (bm:List eV):Bool:=decide (bm.length≤40)&&bm.all (AW w bm.length)
def pJ (w:bz) (bm:List eV) (args:List (Int×Int)):Bool:=
 AX w bm&&(decide (args.length≥1)&&(decide (args.length≤3)&&args.all (hO bm.length)))
def pK (w:bz) (c:Int):Nat:=(eY w.ps).getD c.toNat 0
def ru (w:bz) (bm:List eV):Int×Int→List Int→Option (Int×Int)
 | v,[]=>some v
 | v,s::r=>
  let o:=bm.getD v.2.toNat default
  if v.1≠3 then none
  else if (pK w o.cls).testBit (w.owner.getD s.toNat 0).toNat then
   ru w bm (o.bp.getD (((oM w (pK w o.cls)).findIdx? (· == s)).getD 0) (0,0)) r
  else none
def w2 (w:bz) (bm:List eV) (args:List (Int×Int)) (f:ak):Bool:=
 match ru w bm (args.getD f.arg.toNat (0,0)) f.path with
 | none=>false
 | some v=>
  if f.op=2 then (if v.1=3 then (pK w (bm.getD v.2.toNat default).cls).testBit f.cls.toNat else (pK w v.1).testBit f.cls.toNat)
  else decide (v.1=1)&&((decide (v.2=f.n)==decide (f.op=4))&&decide (v.2≤f.n))
mutual
def tO (w:bz) (bm:List eV) (args:List (Int×Int)):ak→Bool
 | .mk o a p c n ks=>
  if o=1 then true
  else if o=5 then !(oN w bm args 0 ks)
  else if o=6 then oN w bm args 0 ks&&oN w bm args 1 ks
  else if o=7 then oN w bm args 0 ks||oN w bm args 1 ks
  else w2 w bm args (.mk o a p c n ks)
def oN (w:bz) (bm:List eV) (args:List (Int×Int)):Nat→List ak→Bool
 | _,[]=>false
 | 0,x::_=>tO w bm args x
 | n+1,_::r=>oN w bm args n r
end
theorem DW (w:bz) (bm:List eV) (args:List (Int×Int)):∀ (n:Nat) (l:List ak) (x:ak),l[n]? = some x→oN w bm args n l=tO w bm args x
 | 0,y::r,x,h=>by rw [oN];simp at h;rw [h]
 | n+1,y::r,x,h=>by rw [oN];exact DW w bm args n r x e2
theorem UI (w:bz) (bm:List eV) (args:List (Int×Int)) (f:ak):tO w bm args f =
  if f.op=1 then true
  else if f.op=5 then !(oN w bm args 0 f.kids)
  else if f.op=6 then oN w bm args 0 f.kids&&oN w bm args 1 f.kids
  else if f.op=7 then oN w bm args 0 f.kids||oN w bm args 1 f.kids
  else w2 w bm args f:=by cases f;rw [tO];rfl
theorem LY:∀ (a b:List (List Int)) (up:List Nat),j9 up (a++b)=j9 (j9 up a) b
 | [],b,up=>rfl
 | x::a,b,up=>by rw [aa',j9,LY a b,← j9]
theorem LZ:∀ (ps:List (List Int)) (up:List Nat),∃ r,j9 up ps=up++r
  | [],up=>⟨[],by rw [j9,d6]⟩
  | l::r,up=>by
    obtain ⟨t,h⟩:=LZ r (up++[sq up l]);exact ⟨[sq up l]++t,by rw [j9,h,ah0]⟩
theorem AY {ps:List (List Int)} {i k:Nat} (aR:i≤ps.length) (aE:k<3+i):(eY (ps.take i)).getD k 0=(eY ps).getD k 0:=by
 have h:eY ps=j9 (eY (ps.take i)) (ps.drop i):=by
  show j9 [1,3,5] ps=j9 (j9 [1,3,5] (ps.take i)) (ps.drop i);rw [← LY,ai9]
 obtain ⟨r,aD⟩:=LZ (ps.drop i) (eY (ps.take i));rw [h,aD];have aC:(eY (ps.take i)).length=3+i:=by rw [tN,ae8,am8 aR]
 rw [d7,d7,ag0 af]
theorem UJ {ps:List (List Int)} {i:Nat} {l:List Int} (aC:ps[i]? = some l):(eY ps).getD (3+i) 0=sq (eY (ps.take i)) l:=by
 have aR:=(ae2.1 aC).1;rw [← AY (i:=i+1) af af];have:ps.take (i+1)=ps.take i++[l]:=by rw [am2,aC];rfl
 rw [this,LV,d7,af4 (by rw [tN,ae8];omega)];rw [tN,ae8,am8 af,ap9];rfl
theorem L0 (up:List Nat) (k:Nat):∀ (l:List Int) (s:Nat),(l.foldl (fun s p=>s|||up.getD p.toNat 0) s).testBit k=(s.testBit k||l.any fun p=>(up.getD p.toNat 0).testBit k)
 | [],s=>by simp
 | p::r,s=>by rw [List.foldl_cons,L0 up k r,am4,List.any_cons,ar8]
theorem AZ (k:Nat):(1:Nat).testBit k=decide (k=0):=by
 cases k with
 | zero=>rfl
 | succ k=>rw [Nat.testBit_succ];simp
theorem UK (c k:Nat):(2^c).testBit k=decide (c=k):=al7
theorem DX {w:bz} (hw:gz w) {i:Nat} {l:List Int} (aC:w.ps[i]? = some l) (k:Nat):((eY w.ps).getD (3+i) 0).testBit k=(decide (k=0)||(decide (3+i=k)||l.any fun p=>((eY w.ps).getD p.toNat 0).testBit k)):=by
 have aR:=(ae2.1 aC).1;rw [UJ aC,sq,L0,am4,AZ,UK];rw [show (eY (w.ps.take i)).length=3+i by rw [tN,ae8,am8 af],ar8];congr 2;have av:=DS hw.oK aC;rw [af7,ag4,ag4];constructor <;>
 ·rintro ⟨p,aF,h⟩
  obtain ⟨j,aL⟩:=ai0 aF;have:=DT av aL;refine ⟨p,aF,?_⟩;have e:=AY (ps:=w.ps) (i:=i) (k:=p.toNat) af af
  first|rw [← e];exact h|rw [e];exact h
theorem w3 {w:bz} (hw:gz w) {i:Nat} {l:List Int} (aC:w.ps[i]? = some l) {p:Int} (aF:p∈l):3≤p∧p<3+(i:Int):=by
 obtain ⟨j,aL⟩:=ai0 aF;have:=DT (DS hw.oK aC) aL;omega
theorem DY {w:bz} (hw:gz w) {c:Nat} (U:c<3+w.ps.length):((eY w.ps).getD c 0).testBit c=true:=by
 by_cases h:c<3
 ·rw [← AY (ps:=w.ps) (i:=0) (g7 _) af,al4]
  rcases (by omega:c=0∨c=1∨c=2) with rfl|rfl|rfl<;>rfl
 ·obtain ⟨i,rfl⟩:∃ i,c=3+i:=⟨c-3,by omega⟩
  rw [DX hw (f7 af)];simp
theorem UL {w:bz} (hw:gz w) {c:Nat} (U:c<3+w.ps.length):((eY w.ps).getD c 0).testBit 0=true:=by
 by_cases h:c<3
 ·rw [← AY (ps:=w.ps) (i:=0) (g7 _) af,al4]
  rcases (by omega:c=0∨c=1∨c=2) with rfl|rfl|rfl<;>rfl
 ·obtain ⟨i,rfl⟩:∃ i,c=3+i:=⟨c-3,by omega⟩
  rw [DX hw (f7 af)];simp
theorem DZ {w:bz} {c k:Nat} (aB:c<3) (h:((eY w.ps).getD c 0).testBit k=true):k=c∨k=0:=by
 rw [← AY (ps:=w.ps) (i:=0) (g7 _) af,al4] at h;rcases (by omega:c=0∨c=1∨c=2) with rfl|rfl|rfl
 ·rw [show (eY []).getD 0 0=1 from rfl,AZ,i8] at h
  exact .inr h
 ·have:k<2:=by
   rcases aq' k 2 with ad|ad
   ·exact ad
   ·have:=an0 (x:=3) (i:=k) (al2 du (ag2 du ad))
    rw [show (eY []).getD 1 0=3 from rfl,this] at h;cases h
  omega
 ·have:k<3:=by
   rcases aq' k 3 with ad|ad
   ·exact ad
   ·have:=an0 (x:=5) (i:=k) (al2 du (ag2 du ad))
    rw [show (eY []).getD 2 0=5 from rfl,this] at h;cases h
  rcases (by omega:k=0∨k=1∨k=2) with rfl|rfl|rfl
  ·exact .inr C
  ·exact absurd h du
  ·exact .inl C
theorem yQ {w:bz} (hw:gz w):∀ (n c k:Nat),c<n→c<3+w.ps.length→((eY w.ps).getD c 0).testBit k=true→k≤c∧(3≤c→k=0∨3≤k)
  | 0,_,_,h,_,_=>by omega
  | n+1,c,k,h,aB,an=>by
    by_cases al:c<3
    · have:=DZ al an;omega
    · obtain ⟨i,rfl⟩:∃ i,c=3+i:=⟨c-3,by omega⟩
      obtain ⟨l,aC⟩:∃ l,w.ps[i]? = some l:=⟨_,f7 af⟩;rw [DX hw aC] at an;simp only [aj1,i8,ag4] at an;rcases an with an|an|⟨p,aF,an⟩
      · omega
      · omega
      · have U:=w3 hw aC aF
        have:=yQ hw n p.toNat k af af an;omega
def hs (ps:List (List Int)):Nat→(Nat→Bool)→Nat→Bool
 | 0,f=>f
 | m+1,f=>hs ps m fun k=>f k||(f (3+m)&&(ps.getD m []).contains (k:Int))
theorem Hc {w:bz} (hw:gz w):∀ (m:Nat) (f:Nat→Bool) (k:Nat),k<3→m≤w.ps.length→hs w.ps m f k=f k
  | 0,f,k,_,_=>rfl
  | m+1,f,k,aE,hm=>by
    obtain ⟨l,aC⟩:∃ l,w.ps[m]? = some l:=⟨_,f7 af⟩;rw [hs,Hc hw m _ k aE af,d7,aC,af9];have:l.contains (k:Int)=false:=by
      rw [ah4];intro h;have:=w3 hw aC (ah8.1 h);omega
    rw [this,ak8,am3]
theorem Hd {w:bz} (hw:gz w):∀ (m:Nat) (f:Nat→Bool) (k:Nat),3≤k→m≤w.ps.length→(hs w.ps m f k=true↔f k=true∨∃ j,j<m∧f (3+j)=true∧((eY w.ps).getD (3+j) 0).testBit k=true)
  | 0,f,k,_,_=>by
    rw [hs];constructor
    · exact .inl
    · rintro (h|⟨j,h,_⟩)
      · exact h
      · omega
  | m+1,f,k,aE,hm=>by
    obtain ⟨l,aC⟩:∃ l,w.ps[m]? = some l:=⟨_,f7 af⟩;rw [hs,Hd hw m _ k aE af,d7,aC,af9];have ss:=DX hw aC k;simp only [aj1,f8,ah8];constructor
    · rintro ((h|⟨U,ad⟩)|⟨j,aL,h,an⟩)
      · exact .inl h
      · refine .inr ⟨m,aj6 _,U,?_⟩
        rw [ss];have al:=w3 hw aC ad;simp only [aj1,ag4];exact .inr (.inr ⟨(k:Int),ad,by rw [ae1];exact DY hw af⟩)
      · rcases h with h|⟨U,ad⟩
        · exact .inr ⟨j,by omega,h,an⟩
        · refine .inr ⟨m,aj6 _,U,?_⟩
          rw [ss];simp only [aj1,ag4];exact .inr (.inr ⟨((3+j:Nat):Int),ad,by rw [ae1];exact an⟩)
    · rintro (h|⟨j,aL,h,an⟩)
      · exact .inl (.inl h)
      · rcases ah5.1 aL with aL|rfl
        · exact .inr ⟨j,aL,.inl h,an⟩
        · rw [ss] at an
          simp only [aj1,i8,ag4] at an;rcases an with an|an|⟨p,aF,an⟩
          · omega
          · subst an;exact .inl (.inl h)
          · have al:=w3 hw aC aF
            refine .inr ⟨p.toNat-3,by omega,.inr ⟨h,?_⟩,?_⟩
            · rw [show ((3+(p.toNat-3):Nat):Int)=p by omega];exact aF
            · rw [show 3+(p.toNat-3)=p.toNat by omega];exact an
def w4 (w:bz) (c:Nat):Nat→Bool:=hs w.ps (c-2) fun k=>decide (k=c)
theorem He {w:bz} (hw:gz w) {c k:Nat} (aB:c<3+w.ps.length) (aE:1≤k):w4 w c k=((eY w.ps).getD c 0).testBit k:=by
 unfold w4;by_cases al:c<3
 ·rw [show c-2=0 by omega,hs,af7,i8]
  constructor
  ·rintro rfl;exact DY hw aB
  ·intro h;have:=DZ al h;omega
 ·by_cases tk:k<3
  ·rw [Hc hw _ _ _ tk af]
   rw [af7,i8];constructor
   ·omega
   ·intro h;have:=yQ hw (c+1) c k af aB h;omega
  ·rw [af7,Hd hw _ _ _ af af]
   simp only [i8];constructor
   ·rintro (rfl|⟨j,aL,rfl,an⟩)
    ·exact DY hw aB
    ·exact an
   ·intro h;exact .inr ⟨c-3,by omega,by omega,by rw [show 3+(c-3)=c by omega];exact h⟩
def hk (p:bT):List (List Int):=p.cm.map fR.parents
def fL:Nat→List fR→List Int
 | _,[]=>[]
 | i,c::r=>t6 c.bp.length ((i:Int)+3)++fL (i+1) r
def ca (p:bT):bz:=⟨hk p,fL 0 p.cm⟩
def nY:Int→List Int→Option Int
 | n,[]=>some n
 | n,s::r=>if s=n then nY (n+1) r else none
def lJ:Int→List fR→Option Int
 | n,[]=>some n
 | n,c::r=>if c.bp.length≤4 then (nY n c.bp).bind fun m=>lJ m r else none
def oO (cs:List fR):Nat→List Int→List Int→List Int
 | 0,_,out=>out
 | k+1,up,out=>
  if up.contains ((k:Int)+3) then oO cs k (up++(cs.getD k default).parents) (out++(cs.getD k default).bp)
  else oO cs k up out
def pL (l:List Int):List Int:=l.mergeSort fun a b=>decide (a≤b)
def pM (p:bT) (c:Nat):List Int:=pL (oO p.cm (c+1) [(c:Int)+3] [])
def rv (w5:List Int):List Int→List iZ→Bool
 | _,[]=>true
 | seen,x::r=>w5.contains x.slot&&(!seen.contains x.slot&&(kN x.n&&rv w5 (seen++[x.slot]) r))
def yR (p:bT) (i:Nat):List Int:=(fK (hk p) (2+(hk p).length)).getD i []
def Hf (p:bT) (i:Nat) (c:fR):Bool := !(yR p (i+3)).isEmpty&&rv (pM p i) [] c.inits
def ry (p:bT):Nat→List fR→Bool
 | _,[]=>true
 | i,c::r=>Hf p i c&&ry p (i+1) r
def pN (p:bT):Bool:=decide (p.cm.length≤10)&&((lJ 0 p.cm==some p.bp)&&(mL (hk p)&&ry p 0 p.cm))
def np (p:bT) (x:i') (size:Int):Bool:=
 if x.op=1 then kN x.n
 else if x.op=3 then decide (x.n≥0)&&decide (x.n<size)
 else if x.op=4∨x.op=7 then decide (x.n≥0)&&decide (x.n<p.bp)
 else if x.op=6∨x.op=8 then decide (x.n≥3)&&decide (x.n<3+(p.cm.length:Int))
 else if x.op=5 then decide (x.n≥0)&&decide (x.n<(p.ef.length:Int))
 else decide (x.n≥0)&&decide (x.n<1)
def su (p:bT) (x:i'):Option Int:=
 if x.op=5 then some (p.ef.getD x.n.toNat 0)
 else if x.op=1∨x.op=2∨x.op=3∨x.op=6∨x.op=18 then some 0
 else if x.op=4∨x.op=8∨x.op=17 then some 1
 else if x.op=7∨x.op=9∨x.op=11∨x.op=12∨x.op=13∨x.op=14∨x.op=15∨x.op=16 then some 2
 else if x.op=10 then some 3
 else none
def yS (p:bT) (next:Bool) (x:i') (size:Int):Bool:=np p x size&&((next||decide (x.op≠18))&&(su p x==some (x.kids.length:Int)))
def lK (g:Int→Int→List Int→Option (List Int)) (isLet:Bool) (size:Int):Nat→List Int→List Int→Option (List Int)
 | _,[],out=>some out
 | i,k::r,out=>(g k (if isLet&&i==1 then size+1 else size) out).bind (lK g isLet size (i+1) r)
def pO (p:bT) (n:Int) (out:List Int):Bool:=decide (n≥0)&&(decide (n<(p.nodes.length:Int))&&decide (out.getD n.toNat 0<0))
def visitM (p:bT) (next:Bool):Nat→Int→Int→List Int→Option (List Int)
 | 0,_,_,_=>none
 | f+1,n,size,out=>
  if pO p n out then
   if yS p next (p.nodes.getD n.toNat default) size then lK (visitM p next f) (decide ((p.nodes.getD n.toNat default).op=9)) size 0 (p.nodes.getD n.toNat default).kids (out.set n.toNat size)
   else none
  else none
def tP (p:bT) (m:h9):Bool:=
 decide (m.kind≥1)&&(decide (m.kind≤4)&&(decide (m.gen≥0)&&(decide (m.gen<(p.ef.length:Int))&&(iJ (ca p) m.fact&&decide (lI m.fact≤p.ef.getD m.gen.toNat 0)))))
def tQ (k:Int):Bool:=decide (k=1)||decide (k=4)
def nZ (p:bT):List h9→List Int→Option (List Int)
 | [],out=>some out
 | m::r,out=>if tP p m then (visitM p (tQ m.kind) 12 m.node (p.ef.getD m.gen.toNat 0) out).bind (nZ p r) else none
def rz (p:bT):Bool:=
 decide (p.ef.length≤8)&&(decide (p.methods.length≤16)&&(decide (p.nodes.length≥1)&&(decide (p.nodes.length≤120)&&p.ef.all fun n=>decide (n≥1)&&decide (n≤3))))
def n0 (p:bT):Option (List Int):=
 if pN p&&rz p then
  (nZ p p.methods (t6 p.nodes.length (-1))).bind fun out=>(visitM p false 12 p.main 0 out).bind fun out=>if out.contains (-1) then none else some out
 else none
def gA (p:bT):Bool:=(n0 p).isSome
theorem L1:∀ (l:List fR) (i:Nat),(∀ c∈l,c.bp.length≤4)→(fL i l).length≤4*l.length
  | [],_,_=>g8 _
  | c::r,i,h=>by
    have U:=L1 r (i+1) (fun x ab=>h x (i0 _ ab));have ad:=h c i6;rw [fL,f6,af3,g9];omega
theorem D0:∀ (l:List fR) (i:Nat),∀ o∈fL i l,(i:Int)+3≤o∧o<3+(i:Int)+(l.length:Int)
  | [],_,o,h=>by cases h
  | c::r,i,o,h=>by
    rw [fL] at h;rcases ae'.1 h with h|h
    · obtain ⟨_,rfl⟩:=as1.1 h
      rw [g9];omega
    · have:=D0 r (i+1) o h
      rw [g9];omega
theorem Hg:∀ {l:List fR} {n m:Int},lJ n l=some m→∀ c∈l,c.bp.length≤4
  | c::r,n,m,h,x,ab=>by
    rw [lJ] at h;split at h
    · rename_i aB
      cases az:nY n c.bp with
      | none=>rw [az] at h;cases h
      | some k=>
        rw [az] at h;rcases af2.1 ab with rfl|ab
        · exact aB
        · exact Hg (l:=r) h x ab
    · cases h
theorem L2:∀ (g:List (List Int)) (i:Nat),oJ i g=true→w1 i g=true∧∀ l∈g,l.length≤3
  | [],_,_=>⟨rfl,fun l h=>by cases h⟩
  | x::r,i,h=>by
    rw [oJ] at h;simp only [f8,i8] at h;obtain ⟨U,ad⟩:=L2 r (i+1) h.2.2;refine ⟨by rw [w1,h.2.1,U];rfl,fun l aC=>?_⟩;rcases af2.1 aC with rfl|aC
    · exact h.1
    · exact ad l aC
theorem L3 {p:bT} (aB:p.cm.length≤10) {n:Int} (ar:lJ 0 p.cm=some n) (av:mL (hk p)=true):gz (ca p):=by
 unfold mL at av;rw [f8] at av;obtain ⟨g1,g2⟩:=L2 _ _ av.2;have aC:(hk p).length=p.cm.length:=d9 _;have U:=L1 p.cm 0 (Hg ar);refine ⟨by show (hk p).length≤60;omega,g2,g1,by show (fL 0 p.cm).length≤40;omega,fun o ai=>?_⟩;have:=D0 p.cm 0 o ai;show 3≤o∧o<3+((hk p).length:Int);omega
theorem Hh {p:bT} (h:pN p=true):gz (ca p):=by
 unfold pN at h;simp only [f8,i8,al6] at h;exact L3 h.1 h.2.1 h.2.2.1
theorem Hi {w:bz} (hw:gz w):∀ (m:Nat) (f:Nat→Bool) (k:Nat),3+m≤k→m≤w.ps.length→hs w.ps m f k=f k
  | 0,f,k,_,_=>rfl
  | m+1,f,k,aE,hm=>by
    obtain ⟨l,aC⟩:∃ l,w.ps[m]? = some l:=⟨_,f7 af⟩;rw [hs,Hi hw m _ k af af,d7,aC,af9];have:l.contains (k:Int)=false:=by
      rw [ah4];intro h;have:=w3 hw aC (ah8.1 h);omega
    rw [this,ak8,am3]
theorem D1 (ps:List (List Int)):∀ (m:Nat) (f g:Nat→Bool),(∀ k,f k=g k)→∀ k,hs ps m f k=hs ps m g k
  | 0,f,g,h,k=>h k
  | m+1,f,g,h,k=>by
    rw [hs,hs];exact D1 ps m _ _ (fun k=>by rw [h,h]) k
theorem Hj {cs:List fR} {w:bz} (hw:gz w) (qa:w.ps=cs.map fR.parents):∀ (m:Nat) (up out:List Int) (s:Int),m≤cs.length→(s∈oO cs m up out↔s∈out∨∃ j,j<m∧hs w.ps m (fun k=>up.contains (k:Int)) (3+j)=true∧s∈(cs.getD j default).bp)
  | 0,up,out,s,_=>by
    rw [oO];constructor
    · exact .inl
    · rintro (h|⟨j,h,_⟩)
      · exact h
      · omega
  | m+1,up,out,s,hm=>by
    have aC:m<cs.length:=by omega
    have ih:w.ps.length=cs.length:=by rw [qa,d9]
    have UM:w.ps.getD m []=(cs.getD m default).parents:=by
      rw [qa,d7,d7,ae4,f7 aC];rfl
    rw [oO];have e1:((m:Int)+3)=((3+m:Nat):Int):=by omega
    rw [e1];cases hu:up.contains ((3+m:Nat):Int) with
    | true=>
      rw [g6 C,Hj hw qa m _ _ s af];have aB:∀ k,hs w.ps m (fun k=>(up++(cs.getD m default).parents).contains (k:Int)) k=hs w.ps (m+1) (fun k=>up.contains (k:Int)) k:=fun k=>by
        rw [hs];refine D1 _ _ _ _ (fun k=>?_) k;rw [List.contains_append,hu,f5,UM]
      simp only [aB,ae'];constructor
      · rintro ((h|h)|⟨j,U,ad,al⟩)
        · exact .inl h
        · exact .inr ⟨m,by omega,by rw [hs,Hi hw m _ _ (g8 _) af,hu,Bool.true_or],h⟩
        · exact .inr ⟨j,by omega,ad,al⟩
      · rintro (h|⟨j,U,ad,al⟩)
        · exact .inl (.inl h)
        · rcases ah5.1 U with U|rfl
          · exact .inr ⟨j,U,ad,al⟩
          · exact .inl (.inr al)
    | false=>
      rw [f0 ba,Hj hw qa m _ _ s af];have aB:∀ k,hs w.ps (m+1) (fun k=>up.contains (k:Int)) k=hs w.ps m (fun k=>up.contains (k:Int)) k:=fun k=>by
        rw [hs];exact D1 _ _ _ _ (fun k=>by rw [hu,f9,am3]) k
      simp only [aB];constructor
      · rintro (h|⟨j,U,ad,al⟩)
        · exact .inl h
        · exact .inr ⟨j,by omega,ad,al⟩
      · rintro (h|⟨j,U,ad,al⟩)
        · exact .inl h
        · rcases ah5.1 U with U|rfl
          · exact .inr ⟨j,U,ad,al⟩
          · rw [Hi hw _ _ _ (g8 _) af,hu] at ad
            cases ad
theorem L4:∀ {l:List Int} {n m:Int},nY n l=some m→m=n+l.length∧∀ s,s∈l↔n≤s∧s<n+l.length
  | [],n,m,h=>by rw [nY] at h;cases h;exact ⟨by simp,fun s=>by simp⟩
  | x::r,n,m,h=>by
    rw [nY] at h;split at h
    · rename_i ab
      subst ab;obtain ⟨U,ad⟩:=L4 h;refine ⟨by rw [g9];omega,fun s=>?_⟩;rw [af2,ad,g9];omega
    · cases h
theorem Hk:∀ {l:List fR} {i:Nat} {n m:Int},lJ n l=some m→m=n+(fL i l).length∧∀ (j:Nat) (c:fR),l[j]? = some c→∀ s:Int,s∈c.bp↔n≤s∧(fL i l)[(s-n).toNat]? = some ((i:Int)+j+3)
  | [],i,n,m,h=>by rw [lJ] at h;cases h;exact ⟨by simp [fL],fun j c h=>by simp at h⟩
  | x::r,i,n,m,h=>by
    rw [lJ] at h;split at h
    · cases aE:nY n x.bp with
      | none=>rw [aE] at h;cases h
      | some k=>
        rw [aE,Option.bind_some] at h;obtain ⟨U,ad⟩:=L4 aE;obtain ⟨al,bf⟩:=Hk (i:=i+1) h;refine ⟨by rw [fL,f6,af3];push_cast;omega,fun j c aL s=>?_⟩;rw [fL];cases j with
        | zero=>
          have:x=c:=by simpa using aL
          subst this;rw [ad];constructor
          · intro ar
            refine ⟨ar.1,?_⟩;rw [ag0 uZ,ar6,g6 af];simp
          · rintro ⟨g1,g2⟩
            by_cases ar:s<n+x.bp.length
            · exact ⟨g1,ar⟩
            · rw [af4 uZ] at g2
              have:=D0 r (i+1) _ (d5 g2);omega
        | succ j=>
          rw [bf j c (by simpa using aL)];constructor
          · rintro ⟨g1,g2⟩
            refine ⟨by omega,?_⟩;rw [af4 uZ,af3,show (s-n).toNat-x.bp.length=(s-k).toNat by omega,g2];congr 1;push_cast;omega
          · rintro ⟨g1,g2⟩
            by_cases ar:s<k
            · rw [ag0 uZ,ar6,g6 af] at g2
              have:=Option.some.inj g2;omega
            · rw [af4 uZ,af3,show (s-n).toNat-x.bp.length=(s-k).toNat by omega] at g2
              refine ⟨by omega,g2.trans ?_⟩;congr 1;push_cast;omega
    · cases h
theorem UN {p:bT} {n:Int} (ar:lJ 0 p.cm=some n) (hw:gz (ca p)) {i:Nat} (aR:i<p.cm.length) (s:Int) :
  (pM p i).contains s=(decide (s≥0)&&(decide (s<n)&&((eY (ca p).ps).getD (3+i) 0).testBit ((ca p).owner.getD s.toNat 0).toNat)):=by
 obtain ⟨U,ad⟩:=Hk (i:=0) ar;have ih:(ca p).ps.length=p.cm.length:=d9 _;have fZ:(ca p).owner=fL 0 p.cm:=rfl;rw [af7,ah8];unfold pM pL;rw [List.mem_mergeSort,Hj hw C (i+1) _ _ s af];have aB:∀ k,hs (ca p).ps (i+1) (fun k=>[(i:Int)+3].contains (k:Int)) k=w4 (ca p) (3+i) k:=fun k=>by
  unfold w4;rw [show 3+i-2=i+1 by omega];refine D1 _ _ _ _ (fun k=>?_) k;rw [af7,ah8,H1,i8];omega
 simp only [aB,f8,i8];rw [fZ];constructor
 ·rintro (h|⟨j,aL,an,hm⟩)
  ·cases h
  ·have ra:j<p.cm.length:=by omega
   obtain ⟨c,A0⟩:∃ c,p.cm[j]? = some c:=⟨_,f7 ra⟩;rw [d7,A0,af9] at hm;obtain ⟨g1,g2⟩:=(ad j c A0 s).1 hm;rw [aE1] at g2;have g3:=(ae2.1 g2).1;refine ⟨g1,by omega,?_⟩;rw [show (fL 0 p.cm).getD s.toNat 0=((0:Nat):Int)+(j:Int)+3 by rw [d7,g2];rfl,← He hw af af];rw [show (((0:Nat):Int)+(j:Int)+3).toNat=3+j by omega];exact an
 ·rintro ⟨g1,g2,g3⟩
  obtain ⟨o,ai⟩:∃ o,(fL 0 p.cm)[s.toNat]? = some o:=⟨_,f7 af⟩;have D2:=D0 p.cm 0 o (d5 ai);rw [show (fL 0 p.cm).getD s.toNat 0=o by rw [d7,ai];rfl] at g3;have hle:=yQ hw (3+i+1) (3+i) o.toNat af af g3;obtain ⟨j,aL⟩:∃ j:Nat,o=3+(j:Int):=⟨(o-3).toNat,by omega⟩;obtain ⟨c,A0⟩:∃ c,p.cm[j]? = some c:=⟨_,f7 af⟩;refine .inr ⟨j,by omega,?_,?_⟩
  ·rw [He hw af af,show 3+j=o.toNat by omega]
   exact g3
  ·rw [d7,A0,af9]
   refine (ad j c A0 s).2 ⟨g1,?_⟩;rw [aE1,ai,aL];congr 1;omega
mutual
def oP:ak→Int
 | .mk _ _ _ _ _ ks=>1+kO ks
def kO:List ak→Int
 | []=>0
 | x::r=>oP x+kO r
end
mutual
def nq:ak→Int→Int
 | .mk _ _ _ _ _ ks,fS=>pP ks fS 1
def pP:List ak→Int→Int→Int
 | [],_,n=>n
 | x::r,fS,n=>if n≤fS then pP r fS (n+nq x (fS-n)) else n
end
mutual
def nr:ak→Int
 | .mk _ _ _ _ _ ks=>l' 0 ks+1
def l' (m:Int):List ak→Int
 | []=>m
 | x::r=>l' (max m (nr x)) r
end
theorem L5 (f:ak) (m:Int):nq f m=pP f.kids m 1:=by cases f;rw [nq];rfl
theorem UO (f:ak):nr f=l' 0 f.kids+1:=by cases f;rw [nr];rfl
mutual
theorem D3:∀ f:ak,1≤oP f∧oP f≤(f.size:Int)
  | .mk _ _ p _ _ ks=>by
    have:=u3 ks;rw [oP,ak.size];push_cast;omega
theorem u3:∀ l:List ak,0≤kO l∧kO l≤(ak.hN l:Int)
  | []=>by rw [kO];exact ⟨ak9 _,by simp⟩
  | x::r=>by
    have U:=D3 x;have ad:=u3 r;rw [kO,ak.hN];push_cast;omega
end
mutual
theorem Hl:∀ (f:ak) (fS:Int),(oP f≤fS→nq f fS=oP f)∧(oP f>fS→nq f fS>fS)∧nq f fS≤oP f∧1≤nq f fS
  | .mk _ _ _ _ _ ks,fS=>by
    rw [oP,nq];exact L6 ks fS 1
theorem L6:∀ (l:List ak) (fS n:Int),(n+kO l≤fS→pP l fS n=n+kO l)∧(n+kO l>fS→pP l fS n>fS)∧pP l fS n≤n+kO l∧n≤pP l fS n
  | [],fS,n=>by rw [pP,kO];omega
  | x::r,fS,n=>by
    have U:=Hl x (fS-n);have ad:=L6 r fS (n+nq x (fS-n));have al:=D3 x;have bf:=u3 r;rw [pP,kO];split<;>omega
end
theorem Hm:∀ (l:List ak) (m:Int),m≤l' m l
 | [],m=>by rw [l'];exact ak9 _
 | x::r,m=>by rw [l'];have:=Hm r (max m (nr x));omega
theorem D4:∀ (l:List ak) (m d:Int),l' m l≤d↔m≤d∧∀ x∈l,nr x≤d
  | [],m,d=>by rw [l'];simp
  | x::r,m,d=>by
    rw [l',D4 r];constructor
    · rintro ⟨U,ad⟩
      refine ⟨by omega,fun y ay=>?_⟩;rcases af2.1 ay with rfl|ay
      · omega
      · exact ad y ay
    · rintro ⟨U,ad⟩
      exact ⟨by have:=ad x i6;omega,fun y ay=>ad y (i0 _ ay)⟩
mutual
theorem Hn:∀ f:ak,1≤nr f∧nr f≤(f.size:Int)
  | .mk _ _ p _ _ ks=>by
    have U:=D4 ks 0 (ak.hN ks:Int);have ad:=Hm ks 0;rw [nr,ak.size]
    have:l' 0 ks≤(ak.hN ks:Int):=U.2 ⟨by omega,fun x ab=>by
      have:=L7 ks x ab
      have:=ak.h8 ab
      omega⟩
    push_cast;omega
theorem L7:∀ (l:List ak),∀ x∈l,1≤nr x∧nr x≤(x.size:Int)
  | y::r,x,h=>by
    rcases af2.1 h with h|h
    · rw [h];exact Hn y
    · exact L7 r x h
end
mutual
theorem L8:∀ (f:ak) (w:bz) (d:Nat) (k:Int),((fb w d k f).1=true↔oP f≤k∧nr f≤d∧gH w f=true)∧((fb w d k f).1=true→(fb w d k f).2=k-oP f)
  | .mk o a p c n ks,w,d,k=>by
    have ar:=u3 ks;have ax:=Hm ks 0;rw [fb,oP,nr,gH];split
    · rename_i h
      simp only [aj1,i8] at h;refine ⟨⟨fun h=>ot,fun ⟨U,ad,_⟩=>by omega⟩,fun h=>ot⟩
    · rename_i h
      simp only [aj1,i8,not_or] at h;have a1:=L9 ks w (d-1) (k-1) af;have e:l' 0 ks≤((d-1:Nat):Int)↔l' 0 ks+1≤(d:Int):=by omega
      split
      · rename_i az
        rw [az,f5];refine ⟨?_,fun h=>by rw [a1.2 h];omega⟩;rw [a1.1];constructor
        · rintro ⟨U,ad,al⟩;exact ⟨by omega,e.1 ad,al⟩
        · rintro ⟨U,ad,al⟩;exact ⟨by omega,e.2 ad,al⟩
      · rename_i az
        refine ⟨⟨fun h=>ot,fun ⟨_,_,h⟩=>?_⟩,fun h=>ot⟩;rw [f8] at h;exact absurd h.1 az
theorem L9:∀ (l:List ak) (w:bz) (d:Nat) (k:Int),0≤k→((hj w d k l).1=true↔kO l≤k∧l' 0 l≤d∧j' w l=true)∧((hj w d k l).1=true→(hj w d k l).2=k-kO l)
  | [],w,d,k,aE=>by
    rw [hj,kO,l',j'];exact ⟨⟨fun _=>⟨aE,by omega,rfl⟩,fun _=>rfl⟩,fun _=>by simp⟩
  | x::r,w,d,k,aE=>by
    have ab:=L8 x w d k;have aF:=D3 x;have aD:=u3 r;rw [hj,kO,j',D4];split
    · rename_i h
      obtain ⟨U,ad,al⟩:=ab.1.1 h;have he:=ab.2 h;rw [he];have a1:=L9 r w d (k-oP x) af;refine ⟨?_,fun h=>by rw [a1.2 h];omega⟩;rw [a1.1,al,f5,D4];constructor
      · rintro ⟨dE,a2,a3⟩
        refine ⟨by omega,⟨a2.1,fun y ay=>?_⟩,a3⟩;rcases af2.1 ay with rfl|ay
        · exact ad
        · exact a2.2 y ay
      · rintro ⟨dE,a2,a3⟩
        exact ⟨by omega,⟨a2.1,fun y ay=>a2.2 y (i0 _ ay)⟩,a3⟩
    · rename_i h
      refine ⟨⟨fun h=>ot,fun ⟨dE,a2,a3⟩=>?_⟩,fun h=>ot⟩;rw [f8] at a3;exact absurd (ab.1.2 ⟨by omega,a2.2 x i6,a3.1⟩) h
end
theorem UP (w:bz) (f:ak):(decide (nq f 24≤24)&&(decide (nr f≤12)&&gH w f))=iJ w f:=by
 have U:=(L8 f w 12 24).1;have ad:=Hl f 24;have al:nq f 24≤24↔oP f≤24:=by omega
 unfold iJ;rw [af7,U];simp only [f8,i8,al];simp
def bC:Nat:=1099511627776
theorem bD:bC=1099511627776:=rfl
theorem b8 {α:Type} {f:α→ag} {l:List α} {j:Nat} (h:j<l.length):∃ x,l[j]? = some x∧(l.map f)[j]? = some (f x):=
 ⟨l[j],f7 h,by simp [h]⟩
theorem drop_cons {α:Type} {l:List α} {j:Nat} {x:α} (h:l[j]? = some x):l.drop j=x::l.drop (j+1):=by
 obtain ⟨U,ad⟩:=ae2.1 h;rw [List.drop_eq_getElem_cons U,ad]
theorem eD {α:Type} {l:List α} {j:Nat} (h:l.length≤j):l.drop j=[]:=List.drop_eq_nil_of_le h
theorem il {α:Type} {l:List α} {j:Nat} {x:α} (h:l[j]? = some x):l.take (j+1)=l.take j++[x]:=by
 rw [am2,h];rfl
theorem qs {α:Type} {l:List α} {j:Nat} {x:α} (h:l[j]? = some x):j<l.length:=(ae2.1 h).1
def a8 (n:Int):ag := .int .i64 n
def bd (l:List Int):ag := .aA 1 (l.map a8) .bb
def df (g:List (List Int)):ag := .aA 1 (g.map bd) .bb
theorem L' (l:List Int) (n:Int) (aC:l.length<bC):aT d0 92 [bd l,.int .i64 n] (.int .i64 (match l.findIdx? (· == n) with
  | some i=>(i:Int)
  | none => -1)):=by
 have an:=bD;refine aT.bh ah Tryz.func92 C C fun s I=>?_
 unfold bd;refine fP ?_;refine ae.b5 [0,1,7] C I (σ:=Nat) (fun j=>[(8,.int .i64 (j:Int))]) (fun _=>[]) (fun j=>j≤l.length∧∀ i,i<j→l[i]? ≠ some n) (fun j=>l.length-j) 0 ⟨g7 _,fun i aR=>absurd aR (an2 _)⟩ (cl C) aX ?_;rintro j ⟨aL,aq⟩ I;refine b7 ?_;refine ae.cond C (fun au=>?_) (fun aV=>?_);rotate_left;have aV:j=l.length:=by
  have:l.length≤j:=by simpa using aV
  omega
 ·have ab:l.findIdx? (· == n)=none:=by
   rw [ai2];intro z bG;obtain ⟨i,aR⟩:=ai0 bG;have U:=qs aR;have ad:=aq i af;simp only [beq_eq_false_iff_ne];intro e;subst e;exact ad aR
  rw [ab];refine ez ?_;exact bB I
 have au:j<l.length:=by simpa using au
 obtain ⟨y,ay,c8⟩:=b8 (f:=a8) au;unfold a8 at c8;refine bl ?_;refine ae.cond C (fun az=>?_) (fun az=>?_)
 ·have az:n=y:=by simpa using az
  subst az;have ab:l.findIdx? (· == n)=some j:=by
   rw [ah3];refine ⟨au,by simpa using (ae2.1 ay).2,fun i aR=>?_⟩;have:=aq i aR;rw [f7 af] at this;simpa using this
  rw [ab];refine kp ?_;exact bB I
 ·have az:n≠y:=by simpa using az
  refine gx ?_;refine bn.mk (j+1) I ⟨au,?_⟩ cj aX (by show l.length-(j+1)<l.length-j;omega);intro i aR;rcases ah5.1 aR with aR|rfl
  ·exact aq i aR
  ·rw [ay];intro e;cases e;exact az C
theorem Ma (l:List Int) (n:Int):decide ((match l.findIdx? (· == n) with
  | some i=>(i:Int)
  | none => -1)≥0)=l.contains n:=by
 cases h:l.findIdx? (· == n) with
 | none=>
  rw [ai2] at h;have:n∉l:=fun az=>by have:=h n az;simp at this
  simp [this]
 | some i=>
  rw [ah3] at h;obtain ⟨aR,U,_⟩:=h;have e:l[i]=n:=by simpa using U
  have:n∈l:=by rw [← e];exact an6 aR
  simp [this]
theorem yT (l:List Int) (n:Int) (aC:l.length<bC):aT d0 43 [bd l,.int .i64 n] (.bool (l.contains n)):=by
 rw [← Ma];refine aT.bh ah Tryz.func43 C C fun s I=>?_
 refine dt ?_;refine aa.ec C C C C C (L' l n aC) ?_;refine er ?_;exact bB I
theorem Mb (l:List Int) (n:Int) (aC:l.length<bC):aT d0 218 [bd l,.int .i64 n] (.bool (l.contains n)):=by
 have an:=bD;refine aT.bh ah Tryz.func218 C C fun s I=>?_
 unfold bd;refine fP ?_;refine ae.b5 [0,1] C I (σ:=Nat) (fun j=>[(5,.int .i64 (j:Int))]) (fun _=>[]) (fun j=>j≤l.length∧∀ i,i<j→l[i]? ≠ some n) (fun j=>l.length-j) 0 ⟨g7 _,fun i aR=>absurd aR (an2 _)⟩ (cl C) aX ?_;rintro j ⟨aL,aq⟩ I;refine b7 ?_;refine ae.cond C (fun au=>?_) (fun aV=>?_);rotate_left;have aV:j=l.length:=by
  have:l.length≤j:=by simpa using aV
  omega
 ·have ab:l.contains n=false:=by
   rw [ah4];intro hm;have hm:n∈l:=by simpa using hm
   obtain ⟨i,aR⟩:=ai0 hm;exact aq i (by have:=qs aR;omega) aR
  rw [ab];refine ez ?_;exact bB I
 have au:j<l.length:=by simpa using au
 obtain ⟨y,ay,c8⟩:=b8 (f:=a8) au;unfold a8 at c8;refine dG ?_;refine ae.cond C (fun az=>?_) (fun az=>?_)
 ·have az:y=n:=by simpa using az
  subst az;have ab:l.contains y=true:=by simpa using d5 ay
  rw [ab];refine kp ?_;exact bB I
 ·have az:y≠n:=by simpa using az
  refine gx ?_;refine bn.mk (j+1) I ⟨au,?_⟩ cj aX (by show l.length-(j+1)<l.length-j;omega);intro i aR;rcases ah5.1 aR with aR|rfl
  ·exact aq i aR
  ·rw [ay];intro e;cases e;exact az C
theorem A1 (a b:List Int) (aC:a.length<bC) (yU:b.length<bC):aT d0 37 [bd a,bd b] (.bool (a==b)):=by
 have an:=bD;refine aT.bh ah Tryz.func37 C C fun s I=>?_
 unfold bd;refine b7 ?_;refine ae.cond C (fun h=>?_) (fun h=>?_)
 ·have cJ:(a==b)=false:=by
   rw [beq_eq_false_iff_ne];intro e;simp [e] at h
  rw [cJ];refine gX ?_;exact bB I
 ·have eT:a.length=b.length:=by simp at h;omega
  refine kq ?_;refine ae.b5 [0,1,12] C I (σ:=Nat) (fun j=>[(13,.int .i64 (j:Int))]) (fun _=>[]) (fun j=>j≤a.length∧(a==b)=(a.drop j==b.drop j)) (fun j=>a.length-j) 0 ⟨g7 _,rfl⟩ (cl C) aX ?_;rintro j ⟨aL,aq⟩ I;refine b7 ?_;refine ae.cond C (fun au=>?_) (fun aV=>?_);rotate_left;have aV:j=a.length:=by
   have:a.length≤j:=by simpa using aV
   omega
  ·rw [eD af,eD af] at aq
   rw [aq];refine ez ?_;exact bB I
  have au:j<a.length:=by simpa using au
  obtain ⟨x,ab,bL⟩:=b8 (f:=a8) au;obtain ⟨y,ay,c8⟩:=b8 (f:=a8) (by omega:j<b.length);rw [drop_cons ab,drop_cons ay,aw4] at aq;refine kq ?_;refine ae.rk ah mixed C (bc.run C ?_);refine bc.idx 2 j C C C C C C C C C C C C C bL C ?_;refine bc.idx 6 j C C C C C C C C C C C C C c8 C ?_;refine bc.run C (bc.done C ?_);refine ae.cond C (fun az=>?_) (fun az=>?_)
  ·have az:x≠y:=by simpa using az
   rw [aq,beq_false_of_ne az];refine kp ?_;exact bB I
  ·have az:x=y:=by simpa using az
   subst az;rw [beq_self_eq_true,f5] at aq;refine gx ?_;refine bn.mk (j+1) I ⟨au,aq⟩ cj aX DI
theorem u4 (a b:List Int) (aC:a.length<bC) (yU:b.length<bC):aT d0 24 [bd a,bd b] (.bool (a==b)):=by
 have an:=bD;refine aT.bh ah Tryz.func24 C C fun s I=>?_
 unfold bd;refine b7 ?_;refine ae.cond C (fun h=>?_) (fun h=>?_)
 ·have cJ:(a==b)=false:=by
   rw [beq_eq_false_iff_ne];intro e;simp [e] at h
  rw [cJ];refine gX ?_;exact bB I
 ·have eT:a.length=b.length:=by simp at h;omega
  refine kq ?_;refine ae.b5 [0,1,12] C I (σ:=Nat) (fun j=>[(13,.int .i64 (j:Int))]) (fun _=>[]) (fun j=>j≤a.length∧(a==b)=(a.drop j==b.drop j)) (fun j=>a.length-j) 0 ⟨g7 _,rfl⟩ (cl C) aX ?_;rintro j ⟨aL,aq⟩ I;refine b7 ?_;refine ae.cond C (fun au=>?_) (fun aV=>?_);rotate_left;have aV:j=a.length:=by
   have:a.length≤j:=by simpa using aV
   omega
  ·rw [eD af,eD af] at aq
   rw [aq];refine ez ?_;exact bB I
  have au:j<a.length:=by simpa using au
  obtain ⟨x,ab,bL⟩:=b8 (f:=a8) au;obtain ⟨y,ay,c8⟩:=b8 (f:=a8) (by omega:j<b.length);rw [drop_cons ab,drop_cons ay,aw4] at aq;refine kq ?_;refine ae.rk ah mixed C (bc.run C ?_);refine bc.idx 2 j C C C C C C C C C C C C C bL C ?_;refine bc.idx 6 j C C C C C C C C C C C C C c8 C ?_;refine bc.run C (bc.done C ?_);refine ae.cond C (fun az=>?_) (fun az=>?_)
  ·have az:x≠y:=by simpa using az
   rw [aq,beq_false_of_ne az];refine kp ?_;exact bB I
  ·have az:x=y:=by simpa using az
   subst az;rw [beq_self_eq_true,f5] at aq;refine gx ?_;refine bn.mk (j+1) I ⟨au,aq⟩ cj aX DI
theorem Mc {α:Type} (q:α→Bool) {l:List α} {j:Nat} {x:α} (h:l[j]? = some x):(l.take (j+1)).filter q=(l.take j).filter q++(if q x then [x] else []):=by
 rw [il h,List.filter_append];congr 1;cases br:q x<;>simp [br]
theorem Md (fv:ag) (q:Int→Bool) (br:∀ y,eF d0 fv [.int .i64 y] (.bool (q y))) (l:List Int) (aC:l.length<bC):aT d0 307 [bd l,fv] (bd (l.filter q)):=by
 have an:=bD;obtain ⟨xs,c'⟩:∃ xs:Nat→List ag,∀ j,xs j=((l.take j).filter q).map a8:=⟨_,fun _=>rfl⟩;have bq:xs 0=[]:=by rw [c'];rfl
 have fm:∀ j,(xs j).length≤l.length:=fun j=>by
  rw [c',d9];exact am' (aj2 _ _) (al0 _ _)
 refine aT.bh ah Tryz.func307 C C fun s I=>?_
 unfold bd;refine fP ?_;refine ae.h0 I 3 1 0 fun I=>?_
 refine ae.b5 [1,8,9] C I (σ:=Nat×bN) (fun q=>[(10,.int .i64 (q.1:Int)),(5,.aA 1 (xs q.1) q.2)]) (fun q=>[(q.2,.row 3 1 (xs q.1).length)]) (fun q=>q.1≤l.length) (fun q=>l.length-q.1) (0,.nil) (g7 _) ⟨⟨_,rfl,aJ⟩,⟨_,rfl,by rw [bq];exact aQ.nil gN⟩,trivial⟩ (by rw [bq];exact aG.dB _) ?_;rintro ⟨j,own⟩ aL I;simp only at aL I ⊢;refine b7 ?_;refine ae.cond C (fun au=>?_) (fun aV=>?_);rotate_left;have aV:j=l.length:=by
  have:l.length≤j:=by simpa using aV
  omega
 ·subst aV
  have he:xs l.length=(l.filter q).map a8:=by rw [c',ae5]
  rw [he];refine ez ?_;exact Fin.cB I C aQ.bb
 have au:j<l.length:=by simpa using au
 obtain ⟨y,ay,c8⟩:=b8 (f:=a8) au;have ar:=c' (j+1);rw [Mc q ay,ad',← c'] at ar;have l1:=fm j;have UQ:=br y;unfold a8 at c8;refine dG ?_;refine aa.mH C C C C C C UQ ?_;cases aw:q y with
 | true=>
  have ar:xs (j+1)=xs j++[.int .i64 y]:=by rw [ar,aw];rfl
  have cR:(xs (j+1)).length=(xs j).length+1:=by rw [ar];simp
  refine bl ?_;refine aa.fO ah I C C C C C C C di C C C C C C C C aW gY jS af (fun bR I=>?_);refine fj ?_;refine bn.mk (j+1,.own bR) I au kM (by show aG _ [(_,.row _ _ (xs (j+1)).length)] _;rw [cR];exact aG.dB _) (by show l.length-(j+1)<l.length-j;omega)
 | false=>
  have ar:xs (j+1)=xs j:=by rw [ar,aw];simp
  refine bl ?_;refine bn.mk (j+1,own) I au kM (by show aG _ [(_,.row _ _ (xs (j+1)).length)] _;rw [ar];exact aG.dB _) (by show l.length-(j+1)<l.length-j;omega)
theorem UR (y:Int):eF d0 (.func 316 [] []) [.int .i64 y] (.bool (y != 0)):=by
 refine eF.fx (first:=[]) (cap:=[]) ?_;refine aT.bh ah Tryz.func316 C C fun s I=>?_
 refine gX ?_;exact bB I
theorem US (l:List Int) (aC:l.length<bC):aT d0 306 [bd l] (bd (fD 0 l)):=by
 refine aT.bh ah Tryz.func306 C C fun s I=>?_
 refine dt ?_;refine aa.ec C C C C C (Md _ _ UR l aC) ?_;refine er ?_;exact bB I
theorem Ho (l:List Int) (n:Int) (aC:l.length<bC):aT d0 272 [bd l,.int .i64 n] (bd (fD n l)):=by
 have an:=bD;obtain ⟨xs,c'⟩:∃ xs:Nat→List ag,∀ j,xs j=(fD n (l.take j)).map a8:=⟨_,fun _=>rfl⟩;have bq:xs 0=[]:=by rw [c'];rfl
 have fm:∀ j,(xs j).length≤l.length:=fun j=>by
  rw [c',d9];exact am' (yM _ _) (al0 _ _)
 refine aT.bh ah Tryz.func272 C C fun s I=>?_
 unfold bd;refine fP ?_;refine ae.h0 I 3 1 0 fun I=>?_
 refine ae.b5 [0,1] C I (σ:=Nat×bN) (fun q=>[(6,.int .i64 (q.1:Int)),(5,.aA 1 (xs q.1) q.2)]) (fun q=>[(q.2,.row 3 1 (xs q.1).length)]) (fun q=>q.1≤l.length) (fun q=>l.length-q.1) (0,.nil) (g7 _) ⟨⟨_,rfl,aJ⟩,⟨_,rfl,by rw [bq];exact aQ.nil gN⟩,trivial⟩ (by rw [bq];exact aG.dB _) ?_;rintro ⟨j,own⟩ aL I;simp only at aL I ⊢;refine b7 ?_;refine ae.cond C (fun au=>?_) (fun aV=>?_);rotate_left;have aV:j=l.length:=by
  have:l.length≤j:=by simpa using aV
  omega
 ·subst aV
  have he:xs l.length=(fD n l).map a8:=by rw [c',ae5]
  rw [he];refine ez ?_;exact Fin.cB I C aQ.bb
 have au:j<l.length:=by simpa using au
 obtain ⟨y,ay,c8⟩:=b8 (f:=a8) au;have ar:=c' (j+1);unfold fD at ar;rw [Mc _ ay,ad'] at ar;have ar:xs (j+1)=xs j++List.map a8 (if y != n then [y] else []):=by rw [ar,c'];rfl
 have l1:=fm j;unfold a8 at c8;refine dG ?_;refine ae.cond C (fun aw=>?_) (fun aw=>?_)
 ·have aw:(y != n)=true:=by simpa using aw
  have ar:xs (j+1)=xs j++[.int .i64 y]:=by rw [ar,aw];rfl
  have cR:(xs (j+1)).length=(xs j).length+1:=by rw [ar];simp
  refine dG ?_;refine aa.fO ah I C C C C C C C di C C C C C C C C aW gY jS af (fun bR I=>?_);refine fj ?_;refine bn.mk (j+1,.own bR) I au kM (by show aG _ [(_,.row _ _ (xs (j+1)).length)] _;rw [cR];exact aG.dB _) (by show l.length-(j+1)<l.length-j;omega)
 ·have aw:(y != n)=false:=by simpa using aw
  have ar:xs (j+1)=xs j:=by rw [ar,aw];simp
  refine gx ?_;refine bn.mk (j+1,own) I au kM (by show aG _ [(_,.row _ _ (xs (j+1)).length)] _;rw [ar];exact aG.dB _) (by show l.length-(j+1)<l.length-j;omega)
theorem Me (g:List (List Int)) (av:g.length<bC):aT d0 274 [df g] (.bool (mL g)):=by
 have an:=bD;refine aT.bh ah Tryz.func274 C C fun s I=>?_
 unfold df;unfold mL;refine b7 ?_;refine ae.cond C (fun h=>?_) (fun h=>?_)
 ·have U:decide (g.length≤16)=false:=by simp at h ⊢;omega
  rw [U];refine gX ?_;exact bB I
 have U:decide (g.length≤16)=true:=by simp at h ⊢;omega
 have ow:g.length≤16:=aj' U;rw [U,f5];refine kq ?_;refine ae.b5 [10,11] C I (σ:=Nat) (fun j=>[(12,.int .i64 (j:Int))]) (fun _=>[]) (fun j=>j≤g.length∧oJ 0 g=oJ j (g.drop j)) (fun j=>g.length-j) 0 ⟨g7 _,rfl⟩ (cl C) aX ?_;rintro j ⟨aL,aq⟩ I;refine b7 ?_;refine ae.cond C (fun au=>?_) (fun aV=>?_);rotate_left;have aV:j=g.length:=by
  have:g.length≤j:=by simpa using aV
  omega
 ·rw [eD af,oJ] at aq
  rw [aq];refine ez ?_;exact bB I
 have au:j<g.length:=by simpa using au
 obtain ⟨l,ay,c8⟩:=b8 (f:=bd) au;rw [drop_cons ay,oJ] at aq;unfold bd at c8;refine bl ?_;refine ae.cond C (fun h=>?_) (fun h=>?_)
 ·have ad:decide (l.length≤3)=false:=by simp at h ⊢;omega
  rw [aq,ad];refine kp ?_;exact bB I
 have ad:decide (l.length≤3)=true:=by simp at h ⊢;omega
 have ox:l.length≤3:=aj' ad;rw [ad,f5] at aq;refine kq ?_;refine ae.b5 [3,4,10,11,12,20,21] C I (σ:=Nat) (fun k=>[(22,.int .i64 (k:Int))]) (fun _=>[]) (fun k=>k≤l.length∧mK 3 j [] l=mK 3 j (l.take k) (l.drop k)) (fun k=>l.length-k) 0 ⟨g7 _,rfl⟩ (cl C) aX ?_;rintro k ⟨aE,bk⟩ I;refine b7 ?_;refine ae.cond C (fun cI=>?_) (fun dV=>?_);rotate_left
 ·have dV:l.length≤k:=by simpa using dV
  rw [eD dV,mK] at bk;rw [bk,f5] at aq;refine kL ?_;refine bn.mk (j+1) I ⟨au,aq⟩ cj aX AM
 have cI:k<l.length:=by simpa using cI
 obtain ⟨c,aB,ns⟩:=b8 (f:=a8) cI;rw [drop_cons aB,mK] at bk;rw [bk] at aq;unfold a8 at ns;have w:t7 .i64 (3+(j:Int))=3+(j:Int):=dz af af;refine dG ?_;by_cases al:c<3
 ·rw [ab' (show ¬ c≥3 by omega),f9,f9] at aq
  refine aa.dY 29 C (i7 al) ?_;refine bl ?_;rw [aq];exact bB I
 rw [i7 (show c≥3 by omega),f5] at aq bk;refine aa.dh 29 C (ab' al) ?_;refine dU ?_;by_cases bf:c≥3+(j:Int)
 ·rw [ab' (show ¬ c<3+(j:Int) by omega),f9] at aq
  refine aa.dY 35 C (by rw [w];exact i7 bf) ?_;refine bl ?_;rw [aq];exact bB I
 rw [i7 (show c<3+(j:Int) by omega),f5] at aq bk;refine aa.dh 35 C (by rw [w];exact ab' bf) ?_;have im:=yT (l.take k) c (by have:=al0 k l;omega);unfold bd at im;rw [ar7] at im;refine dU ?_;refine aa.slice ah 0 k C C C C C C C C (.inr C) (.inl ⟨rfl,rfl⟩) (.inr ⟨_,_,rfl,rfl⟩) (.inl ⟨rfl,rfl⟩) (g7 _) (by simpa using aE) ?_;rw [am6];refine dU ?_;refine aa.ec C C C C C im ?_;cases bE:(l.take k).contains c with
 | true=>
  rw [bE,ak2,f9] at aq;refine bl ?_;rw [aq];exact bB I
 | false=>
  rw [bE,aj3,f5,← il aB] at aq bk;refine bl ?_;exact bn.mk (k+1) I ⟨cI,by rw [bk]⟩ cj aX (by show l.length-(k+1)<l.length-k;omega)
theorem UT (g:List (List Int)) (av:g.length<bC):aT d0 180 [df g] (.bool (mL g)):=by
 have an:=bD;refine aT.bh ah Tryz.func180 C C fun s I=>?_
 unfold df;unfold mL;refine b7 ?_;refine ae.cond C (fun h=>?_) (fun h=>?_)
 ·have U:decide (g.length≤16)=false:=by simp at h ⊢;omega
  rw [U];refine gX ?_;exact bB I
 have U:decide (g.length≤16)=true:=by simp at h ⊢;omega
 have ow:g.length≤16:=aj' U;rw [U,f5];refine kq ?_;refine ae.b5 [0] C I (σ:=Nat) (fun j=>[(3,.int .i64 (j:Int))]) (fun _=>[]) (fun j=>j≤g.length∧oJ 0 g=oJ j (g.drop j)) (fun j=>g.length-j) 0 ⟨g7 _,rfl⟩ (cl C) aX ?_;rintro j ⟨aL,aq⟩ I;refine b7 ?_;refine ae.cond C (fun au=>?_) (fun aV=>?_);rotate_left;have aV:j=g.length:=by
  have:g.length≤j:=by simpa using aV
  omega
 ·rw [eD af,oJ] at aq
  rw [aq];refine ez ?_;exact bB I
 have au:j<g.length:=by simpa using au
 obtain ⟨l,ay,c8⟩:=b8 (f:=bd) au;rw [drop_cons ay,oJ] at aq;unfold bd at c8;refine dG ?_;refine ae.cond C (fun h=>?_) (fun h=>?_)
 ·have ad:decide (l.length≤3)=false:=by simp at h ⊢;omega
  rw [aq,ad];refine kp ?_;exact bB I
 have ad:decide (l.length≤3)=true:=by simp at h ⊢;omega
 have ox:l.length≤3:=aj' ad;rw [ad,f5] at aq;refine kq ?_;refine ae.b5 [0,3] C I (σ:=Nat) (fun k=>[(4,.int .i64 (k:Int))]) (fun _=>[]) (fun k=>k≤l.length∧mK 3 j [] l=mK 3 j (l.take k) (l.drop k)) (fun k=>l.length-k) 0 ⟨g7 _,rfl⟩ (cl C) aX ?_;rintro k ⟨aE,bk⟩ I;refine dG ?_;refine ae.cond C (fun cI=>?_) (fun dV=>?_);rotate_left
 ·have dV:l.length≤k:=by simpa using dV
  rw [eD dV,mK] at bk;rw [bk,f5] at aq;refine kL ?_;refine bn.mk (j+1) I ⟨au,aq⟩ cj aX AM
 have cI:k<l.length:=by simpa using cI
 obtain ⟨c,aB,ns⟩:=b8 (f:=a8) cI;rw [drop_cons aB,mK] at bk;rw [bk] at aq;have im:=Mb (l.take k) c (by have:=al0 k l;omega);unfold bd at im;rw [ar7] at im;unfold a8 at ns;have w:t7 .i64 (3+(j:Int))=3+(j:Int):=dz af af;refine kq ?_;refine ae.rk ah mixed C (bc.runs (is:=[0,1,4]) C ?_);refine bc.idx 2 j C C C C C C C C C C C C C c8 C ?_;refine bc.runs (is:=[3]) C ?_;refine bc.idx 5 k C C C C C C C C C C C C C ns C ?_;refine bc.runs (is:=[6,7,8]) C ?_;by_cases al:c<3
 ·rw [ab' (show ¬ c≥3 by omega),f9,f9] at aq
  refine bc.dY 37 C (i7 al) ?_;refine bc.run C (bc.done C ?_);refine bl ?_;rw [aq];exact bB I
 rw [i7 (show c≥3 by omega),f5] at aq bk;refine bc.dh 37 C (ab' al) ?_;refine bc.runs (is:=[9,10,13,16,17]) C ?_;refine bc.idx 11 j C C C C C C C C C C C C C c8 C ?_;refine bc.runs (is:=[12]) C ?_;refine bc.idx 14 k C C C C C C C C C C C C C ns C ?_;refine bc.runs (is:=[15,18,19,20]) C ?_;by_cases bf:c≥3+(j:Int)
 ·rw [ab' (show ¬ c<3+(j:Int) by omega),f9] at aq
  refine bc.dY 49 C (by rw [w];exact i7 bf) ?_;refine bc.run C (bc.done C ?_);refine bl ?_;rw [aq];exact bB I
 rw [i7 (show c<3+(j:Int) by omega),f5] at aq bk;refine bc.dh 49 C (by rw [w];exact ab' bf) ?_;refine bc.run C ?_;refine bc.idx 23 j C C C C C C C C C C C C C c8 C ?_;refine bc.idx 29 j C C C C C C C C C C C C C c8 C ?_;refine bc.run C ?_;refine bc.idx 32 k C C C C C C C C C C C C C ns C ?_;refine bc.slice 26 0 k C C C C C C C C C C (.inr C) (.inl ⟨rfl,rfl⟩) (.inr ⟨_,_,rfl,rfl⟩) (.inl ⟨rfl,rfl⟩) (g7 _) (by simpa using aE) ?_;rw [am6];refine bc.run C ?_;refine bc.AJ (i:=34) C C C C C C C im ?_;refine bc.run C ?_;refine bc.done C ?_;cases bE:(l.take k).contains c with
 | true=>
  rw [bE,ak2,f9] at aq;refine bl ?_;rw [aq];exact bB I
 | false=>
  rw [bE,aj3,f5,← il aB] at aq bk;refine bl ?_;exact bn.mk (k+1) I ⟨cI,by rw [bk]⟩ cj aX (by show l.length-(k+1)<l.length-k;omega)
theorem UU (all:List (List Int)) (c:Int) (aC:all.length<bC) (a6:∀ l∈all,l.length<bC):aT d0 273 [df all,.int .i64 c] (.bool (free all c)):=by
 have an:=bD;refine aT.bh ah Tryz.func273 C C fun s I=>?_
 unfold df;refine fP ?_;refine ae.b5 [0,1] C I (σ:=Nat) (fun j=>[(5,.int .i64 (j:Int))]) (fun _=>[]) (fun j=>j≤all.length∧free all c=free (all.drop j) c) (fun j=>all.length-j) 0 ⟨g7 _,rfl⟩ (cl C) aX ?_;rintro j ⟨aL,aq⟩ I;refine b7 ?_;refine ae.cond C (fun au=>?_) (fun aV=>?_);rotate_left;have aV:j=all.length:=by
  have:all.length≤j:=by simpa using aV
  omega
 ·rw [eD af] at aq
  rw [aq];refine ez ?_;exact bB I
 have au:j<all.length:=by simpa using au
 obtain ⟨l,ay,c8⟩:=b8 (f:=bd) au;rw [drop_cons ay] at aq;have mO:=a6 l (d5 ay);have aq:free all c=(!(l.drop 1).contains c&&free (all.drop (j+1)) c):=aq;have im:=Mb (l.drop 1) c cV;unfold bd at im c8;rw [List.map_drop] at im;refine dG ?_;cases l with
 | nil=>
  refine aa.dh 18 C C ?_;refine bl ?_;refine bn.mk (j+1) I ⟨au,aq⟩ cj aX (by show all.length-(j+1)<all.length-j;omega)
 | cons x r=>
  refine aa.dY 18 C ba ?_;refine dG ?_;refine aa.slice ah 1 ((x::r).map a8).length C C C C C C C C (.inr C) (.inr ⟨_,_,rfl,rfl⟩) (.inl ⟨rfl,rfl,rfl⟩) (.inl ⟨rfl,rfl⟩) ba (g8 _) ?_;rw [ae5];refine dU ?_;refine aa.ec C C C C C im ?_;cases bE:((x::r).drop 1).contains c with
  | true=>
   rw [bE,ak2,f9] at aq;rw [aq];refine bl ?_;exact bB I
  | false=>
   rw [bE,aj3,f5] at aq;refine bl ?_;refine bn.mk (j+1) I ⟨au,aq⟩ cj aX (by show all.length-(j+1)<all.length-j;omega)
structure rA (n b:Nat) (all:List (List Int)):Prop where
 len:all.length≤n
 each:∀ l∈all,l.length≤b∧∀ c∈l,0≤c
theorem rA.fD {n b:Nat} {all:List (List Int)} (h:rA n b all) (c:Int):rA n b (all.map (fD c)):=by
 refine ⟨by rw [d9];exact h.len,fun l aC=>?_⟩;obtain ⟨lH,U,rfl⟩:=af'.1 aC;obtain ⟨ad,al⟩:=h.each lH U;exact ⟨am' (yM _ _) ad,fun c aB=>al c (ah6.1 aB).1⟩
theorem D5 {n b:Nat} {all:List (List Int)} (h:rA n b all):total all≤n*b:=by
 obtain ⟨U,ad⟩:=h;have:total all≤all.length*b:=by
  clear U
  induction all with
  | nil=>simp [total]
  | cons l r a1=>
   have al:=(ad l i6).1;have bf:=a1 (fun x ab=>ad x (i0 _ ab));have bE:total (l::r)=l.length+total r:=rfl;rw [bE,g9,Nat.add_mul];omega
 exact am' this (am9 _ U)
theorem Mf {all l:List (List Int)} {j:Nat} (h:l[j]? = some []):pick all (l.drop j)=pick all (l.drop (j+1)):=by
 rw [drop_cons h];rfl
theorem Mg {all l:List (List Int)} {j:Nat} {c:Int} {r:List Int} (h:l[j]? = some (c::r)):pick all (l.drop j)=if free all c then some c else pick all (l.drop (j+1)):=by
 rw [drop_cons h];rfl
theorem UW (n b:Nat) (jn:n<1000∧b<1000) (all:List (List Int)) (hm:rA n b all):aT d0 252 [df all] (.cw [bd (merged all).1,.bool (merged all).2]):=by
 have an:=bD;refine aT.bh ah Tryz.func252 C C fun s I=>?_
 unfold df;have w6:total all≤n*b:=D5 hm;have UX:n*b≤1000*1000:=Nat.mul_le_mul af af;refine fP ?_;refine ae.h0 I 3 1 0 fun I=>?_
 refine ae.b5 [] C I (σ:=Nat×List (List Int)×List Int×bN) (fun q=>[(0,.aA 1 (q.2.1.map bd) .bb),(4,.aA 1 (q.2.2.1.map a8) q.2.2.2)]) (fun q=>[(q.2.2.2,.row 3 1 q.2.2.1.length)])
  (fun q=>merge q.1 q.2.1 q.2.2.1=merged all∧total q.2.1<q.1∧rA n b q.2.1∧q.2.2.1.length+total q.2.1≤total all) (fun q=>q.1) (total all+1,all,[],.nil) ⟨rfl,aj6 _,hm,by simp⟩ ⟨⟨_,rfl,aJ⟩,⟨_,rfl,aQ.nil gN⟩,trivial⟩ (aG.dB _) ?_
 rintro ⟨k,cur,acc,own⟩ ⟨dM,hr,hm,uS⟩ I;simp only at dM hr hm uS I ⊢;have cy:=hm.len;refine fP ?_;refine ae.b5 [0,4] C I (σ:=Nat×Int×Bool) (fun z=>[(5,.int .i64 z.2.1),(6,.bool z.2.2),(7,.int .i64 (z.1:Int))]) (fun _=>[(own,.row 3 1 acc.length)])
  (fun z=>z.1≤cur.length∧((z.2.1 = -1∧pick cur cur=pick cur (cur.drop z.1)∧(!z.2.2)=(cur.take z.1).all ap')∨(0≤z.2.1∧pick cur cur=some z.2.1))) (fun z=>cur.length-z.1+if z.2.1<0 then 1 else 0) (0,-1,false) ⟨g7 _,.inl ⟨rfl,rfl,rfl⟩⟩ (cl C) (aG.dB _) ?_
 rintro ⟨j,gD,Hp⟩ ⟨aL,aq⟩ I;simp only at aL aq I ⊢;refine jE ?_;by_cases au:j<cur.length
 ·refine aa.dY 14 C (by simpa using au) ?_
  refine gr ?_;refine ae.cond C (fun az=>?_) (fun az=>?_)
  ·have az:gD<0:=aj' az
   obtain ⟨rfl,aq,hP⟩:gD = -1∧_:=by
    rcases aq with h|h
    ·exact h
    ·omega
   obtain ⟨l,ay,c8⟩:=b8 (f:=bd) au;have Mh:=hm.each l (d5 ay);have GG:=fun c=>UU cur c af (fun l aC=>by have:=(hm.each l aC).1;omega)
   unfold df at GG;unfold bd at c8;have A2:(cur.take (j+1)).all ap'=((cur.take j).all ap'&&l.isEmpty):=by rw [il ay,List.all_append];simp
   refine dG ?_;cases l with
   | nil=>
    rw [Mf ay] at aq;refine ae.gT C ?_;refine gx ?_;exact bn.mk (j+1,-1,Hp) I ⟨au,.inl ⟨rfl,aq,by rw [A2,← hP];simp⟩⟩ cj (aG.dB _) (by show cur.length-(j+1)+1<cur.length-j+1;omega)
   | cons c r=>
    rw [Mg ay] at aq;refine ae.cond C (fun _=>?_) (fun h=>absurd h ba);have Mi:((c::r).map a8)[0]? = some (.int .i64 c):=rfl;refine bl ?_;refine aa.ec C C C C C (GG c) ?_;cases qd:free cur c with
    | true=>
     rw [qd,g6 C] at aq;have CW:=Mh.2 c i6;refine bl ?_;exact bn.mk (j+1,c,true) I ⟨au,.inr ⟨CW,aq⟩⟩ cj (aG.dB _) (by show cur.length-(j+1)+(if c<0 then 1 else 0)<cur.length-j+1;split<;>omega)
    | false=>
     rw [qd,f0 ba] at aq;refine bl ?_;exact bn.mk (j+1,-1,true) I ⟨au,.inl ⟨rfl,aq,by rw [A2];simp⟩⟩ cj (aG.dB _) (by show cur.length-(j+1)+1<cur.length-j+1;omega)
  ·have az:¬ gD<0:=of_decide_eq_false az
   obtain ⟨yV,w7⟩:0≤gD∧pick cur cur=some gD:=by
    rcases aq with h|h
    ·omega
    ·exact h
   have kP:¬ gD<0:=by omega
   refine ez ?_;refine ae.cond C (fun h=>absurd (aj' h) kP) (fun _=>?_);cases k with
   | zero=>omega
   | succ k=>
   have Mj:=DQ (u2 w7);rw [merge,w7] at dM;simp only at dM;refine dG ?_;refine aa.fO ah I C C C C C C C di C C C C C C C C aW gY jS af (fun bR I=>?_);refine bl ?_;obtain ⟨xs,c'⟩:∃ xs:Nat→List ag,∀ j,xs j=((cur.take j).map (fD gD)).map bd:=⟨_,fun _=>rfl⟩;have bq:xs 0=[]:=by rw [c'];rfl
   have fm:∀ j,(xs j).length≤cur.length:=fun j=>by
    rw [c',d9,d9];exact al0 _ _
   refine ae.h0 I 23 1 0 fun I=>?_
   refine ae.b5 [0,4,5] C I (σ:=Nat×bN) (fun q=>[(9,.int .i64 (q.1:Int)),(8,.aA 1 (xs q.1) q.2)]) (fun q=>[(q.2,.row 23 1 (xs q.1).length),(.own bR,.row 3 1 (acc.length+1))]) (fun q=>q.1≤cur.length) (fun q=>cur.length-q.1) (0,.nil) (g7 _) ⟨⟨_,rfl,aJ⟩,⟨_,rfl,by rw [bq];exact aQ.nil gN⟩,trivial⟩ GW ?_;rintro ⟨i,qt⟩ aR I;simp only at aR I ⊢;refine b7 ?_;refine ae.cond C (fun ka=>?_) (fun kQ=>?_)
   ·have ka:i<cur.length:=by simpa using ka
    obtain ⟨l,ay,c8⟩:=b8 (f:=bd) ka;have ar:=c' (i+1);rw [il ay,ad',ad',← c'] at ar;have ar:xs (i+1)=xs i++[.aA 1 ((fD gD l).map a8) .bb]:=ar;have cR:(xs (i+1)).length=(xs i).length+1:=by rw [ar];simp
    have l1:=fm i;have hw:=Ho l gD (by have:=(hm.each l (d5 ay)).1;omega);unfold bd at c8 hw;refine dG ?_;refine aa.ec C C C C C hw ?_;refine dU ?_;refine aa.fO ah I C C C C C C C di C C C C C C C C aW gY pE af (fun fo I=>?_);refine fj ?_;exact bn.mk (i+1,.own fo) I ka kM (by show aG _ [(_,.row _ _ (xs (i+1)).length),_] _;rw [cR];exact aG.dB _) G0
   ·have kQ:i=cur.length:=by
     have:cur.length≤i:=by simpa using kQ
     omega
    subst kQ;have he:xs cur.length=(cur.map (fD gD)).map bd:=by rw [c',ae5]
    rw [he] at I ⊢;refine kL ?_;exact bn.mk (k,cur.map (fD gD),acc++[gD],.own bR) I ⟨dM,by show total (cur.map (fD gD))<k;omega,hm.fD gD,by show (acc++[gD]).length+total (cur.map (fD gD))≤total all;rw [f6,ag8];omega⟩ ⟨⟨_,rfl,aQ.bb⟩,⟨_,rfl,aQ.of_eq (by simp [a8])⟩,trivial⟩ (by show aG _ [(_,.row _ _ (acc++[gD]).length)] _;rw [f6,ag8];exact (aG.dB _).there) (by show k<k+1;omega)
 ·refine aa.dh 14 C (by simpa using au) ?_
  have aV:j=cur.length:=by omega
  rcases aq with ⟨rfl,aq,hP⟩|⟨yV,w7⟩
  ·rw [eD af] at aq
   rw [aV,ae5] at hP;cases k with
   | zero=>omega
   | succ k=>
    rw [merge,aq] at dM;have dM:(acc,cur.all ap')=merged all:=dM;rw [← dM,← hP];refine bl ?_;exact Fin.cB I C (aQ.cw (.cons aQ.bb (.one aJ)))
  ·have kP:¬ gD<0:=by omega
   refine bl ?_;refine ae.cond C (fun h=>absurd (aj' h) kP) (fun _=>?_);cases k with
   | zero=>omega
   | succ k=>
   have Mj:=DQ (u2 w7);rw [merge,w7] at dM;simp only at dM;refine dG ?_;refine aa.fO ah I C C C C C C C di C C C C C C C C aW gY jS af (fun bR I=>?_);refine bl ?_;obtain ⟨xs,c'⟩:∃ xs:Nat→List ag,∀ j,xs j=((cur.take j).map (fD gD)).map bd:=⟨_,fun _=>rfl⟩;have bq:xs 0=[]:=by rw [c'];rfl
   have fm:∀ j,(xs j).length≤cur.length:=fun j=>by
    rw [c',d9,d9];exact al0 _ _
   refine ae.h0 I 23 1 0 fun I=>?_
   refine ae.b5 [0,4,5] C I (σ:=Nat×bN) (fun q=>[(9,.int .i64 (q.1:Int)),(8,.aA 1 (xs q.1) q.2)]) (fun q=>[(q.2,.row 23 1 (xs q.1).length),(.own bR,.row 3 1 (acc.length+1))]) (fun q=>q.1≤cur.length) (fun q=>cur.length-q.1) (0,.nil) (g7 _) ⟨⟨_,rfl,aJ⟩,⟨_,rfl,by rw [bq];exact aQ.nil gN⟩,trivial⟩ GW ?_;rintro ⟨i,qt⟩ aR I;simp only at aR I ⊢;refine b7 ?_;refine ae.cond C (fun ka=>?_) (fun kQ=>?_)
   ·have ka:i<cur.length:=by simpa using ka
    obtain ⟨l,ay,c8⟩:=b8 (f:=bd) ka;have ar:=c' (i+1);rw [il ay,ad',ad',← c'] at ar;have ar:xs (i+1)=xs i++[.aA 1 ((fD gD l).map a8) .bb]:=ar;have cR:(xs (i+1)).length=(xs i).length+1:=by rw [ar];simp
    have l1:=fm i;have hw:=Ho l gD (by have:=(hm.each l (d5 ay)).1;omega);unfold bd at c8 hw;refine dG ?_;refine aa.ec C C C C C hw ?_;refine dU ?_;refine aa.fO ah I C C C C C C C di C C C C C C C C aW gY pE af (fun fo I=>?_);refine fj ?_;exact bn.mk (i+1,.own fo) I ka kM (by show aG _ [(_,.row _ _ (xs (i+1)).length),_] _;rw [cR];exact aG.dB _) G0
   ·have kQ:i=cur.length:=by
     have:cur.length≤i:=by simpa using kQ
     omega
    subst kQ;have he:xs cur.length=(cur.map (fD gD)).map bd:=by rw [c',ae5]
    rw [he] at I ⊢;refine kL ?_;exact bn.mk (k,cur.map (fD gD),acc++[gD],.own bR) I ⟨dM,by show total (cur.map (fD gD))<k;omega,hm.fD gD,by show (acc++[gD]).length+total (cur.map (fD gD))≤total all;rw [f6,ag8];omega⟩ ⟨⟨_,rfl,aQ.bb⟩,⟨_,rfl,aQ.of_eq (by simp [a8])⟩,trivial⟩ (by show aG _ [(_,.row _ _ (acc++[gD]).length)] _;rw [f6,ag8];exact (aG.dB _).there) (by show k<k+1;omega)
structure sv (g:List (List Int)):Prop where
 len:g.length≤16
 par:∀ (i:Nat) (l:List Int),g[i]? = some l→l.length≤3∧∀ c∈l,3≤c∧c<3+(i:Int)
theorem Mk {f i:Int}:∀ {l seen:List Int},mK f i seen l=true→∀ c∈l,f≤c∧c<f+i
  | [],_,_,c,aB=>by cases aB
  | d::r,seen,h,c,aB=>by
    rw [mK] at h;simp only [f8,i8] at h;rcases af2.1 aB with rfl|aB
    · exact ⟨h.1,h.2.1⟩
    · exact Mk h.2.2.2 c aB
theorem Ml:∀ {g:List (List Int)} {k:Nat},oJ k g=true→∀ i l,g[i]? = some l→l.length≤3∧∀ c∈l,3≤c∧c<3+((k+i:Nat):Int)
  | [],_,_,i,l,aC=>by simp at aC
  | x::r,k,h,i,l,aC=>by
    rw [oJ] at h;simp only [f8,i8] at h;cases i with
    | zero=>
      cases aC;exact ⟨h.1,fun c aB=>by have:=Mk h.2.1 c aB;omega⟩
    | succ i=>
      have:=Ml h.2.2 i l aC;rw [show k+1+i=k+(i+1) by omega] at this;exact this
theorem A3 {g:List (List Int)} (h:mL g=true):sv g:=by
 unfold mL at h;simp only [f8,i8] at h;refine ⟨h.1,fun i l aC=>?_⟩;have:=Ml h.2 i l aC;simpa using this
theorem sv.parents {g:List (List Int)} (h:sv g) (c:Nat):(parents g c).length≤3∧∀ p∈parents g c,3≤p∧p<(c:Int):=by
 unfold Go.Proofs.YtnafpeohfbglmaaGreat.parents;by_cases aB:c<3
 ·rw [g6 aB];exact ⟨by simp,fun p aF=>by cases aF⟩
 ·rw [f0 aB,d7]
  cases aC:g[c-3]? with
  | none=>exact ⟨by simp,fun p aF=>by simp at aF⟩
  | some l=>
   obtain ⟨U,ad⟩:=h.par _ _ aC;exact ⟨U,fun p aF=>by have:=ad p aF;omega⟩
structure ac5 (n:Nat) (l:List Int):Prop where
 len:l.length≤n
 pos:∀ c∈l,0≤c
theorem Hq:∀ (k:Nat) (all:List (List Int)) (acc:List Int),(merge k all acc).1.length≤acc.length+total all
  | 0,_,acc=>by rw [merge];exact aB6 _ _
  | k+1,all,acc=>by
    rw [merge];cases aF:pick all all with
    | none=>exact aB6 _ _
    | some d=>
      simp only;have U:=Hq k (all.map (fD d)) (acc++[d]);have ad:=DQ (u2 aF);rw [f6,ag8] at U;omega
theorem UY (g:List (List Int)) (av:g.length<bC) (c:Nat) (aB:c<3+g.length):aT d0 271 [df g,.int .i64 (c:Int)] (bd (parents g c)):=by
 have an:=bD;refine aT.bh ah Tryz.func271 C C fun s I=>?_
 unfold df parents;refine b7 ?_;refine ae.cond C (fun h=>?_) (fun h=>?_)
 ·have h:c<3:=by have:=aj' h;omega
  rw [g6 h];refine gX ?_;exact Fin.cB I C (aQ.nil gN)
 ·have h:¬ c<3:=by have:=of_decide_eq_false h;omega
  obtain ⟨l,ay,c8⟩:=b8 (f:=bd) (l:=g) (j:=c-3) af;rw [f0 h,d7,ay];unfold bd at c8;refine dG ?_;refine aa.idx ah (c-3) C C C C C C C C C C GY c8 C ?_;refine er ?_;exact bB I
theorem Mm {o:List (List Int)}:∀ {l:List Int} {r:List (List Int)},iY o l=some r→r.length=l.length
  | [],r,h=>by cases h;rfl
  | p::q,r,h=>by
    rw [iY] at h;split at h
    · cases h
    · cases br:iY o q with
      | none=>rw [br] at h;cases h
      | some t=>
        rw [br] at h;cases h;rw [g9,Mm br,g9]
def pre (x:Option (List (List Int))) (a:List (List Int)):Option (List (List Int)):=x.map fun l=>a++l
theorem Mn (x:Option (List (List Int))):pre x []=x:=by cases x<;>rfl
theorem Mo (o:List (List Int)) (a:List (List Int)) (p:Int) (q:List Int):pre (iY o (p::q)) a=if (o.getD p.toNat []).isEmpty then none else pre (iY o q) (a++[fD 0 (o.getD p.toNat [])]):=by
 unfold pre;rw [iY];split
 ·rfl
 ·cases iY o q<;>simp
def u5:Option (List (List Int))→ag
 | some l => .cw [df l,.bool true]
 | none => .cw [df [],.bool false]
theorem UZ (g:List (List Int)) (av:sv g) (o:List (List Int)) (c:Nat) (aB:c<3+g.length) (ai:c≤o.length) (fZ:o.length<100) (A4:∀ l∈o,l.length<1000) :
  aT d0 251 [df g,df o,.int .i64 (c:Int)] (u5 (lists g o c)):=by
 have an:=bD;have iK:=av.len;have aF:=UY g af c aB;obtain ⟨n1,mP⟩:=av.parents c;unfold lists;generalize parents g c=l at aF n1 mP ⊢;refine aT.bh ah Tryz.func251 C C fun s I=>?_
 unfold df at aF ⊢;unfold bd at aF;refine dt ?_;refine aa.ec C C C C C aF ?_;refine bl ?_;refine ae.h0 I 23 1 0 fun I=>?_
 refine ae.b5 [1,9] C I (σ:=Nat×List (List Int)×bN) (fun q=>[(10,.int .i64 (q.1:Int)),(8,.aA 1 (q.2.1.map bd) q.2.2)]) (fun q=>[(q.2.2,.row 23 1 q.2.1.length)]) (fun q=>q.1≤l.length∧q.2.1.length=q.1∧iY o l=pre (iY o (l.drop q.1)) q.2.1) (fun q=>l.length-q.1) (0,[],.nil) ⟨g7 _,rfl,(Mn _).symm⟩ ⟨⟨_,rfl,aJ⟩,⟨_,rfl,aQ.nil gN⟩,trivial⟩ (aG.dB _) ?_;rintro ⟨j,acc,own⟩ ⟨aL,kt,aq⟩ I;simp only at aL kt aq I ⊢;refine b7 ?_;refine ae.cond C (fun au=>?_) (fun aV=>?_);rotate_left
 ·have aV:l.length≤j:=by simpa using aV
  rw [eD aV] at aq;have aq:iY o l=some (acc++[]):=aq;rw [aq,d6];have Hr:u5 (Option.map (fun x=>x++[l]) (some acc)) = .cw [.aA 1 (acc.map bd++[.aA 1 (l.map a8) .bb]) .bb,.bool true]:=by
   show ag.cw [.aA 1 ((acc++[l]).map bd) .bb,.bool true]=_;rw [ad'];rfl
  rw [Hr];refine bl ?_;refine aa.fO ah I C C C C C C C di C C C C C C C C aW gY pE af (fun bR I=>?_);refine er ?_;exact Fin.cB I C (aQ.cw (.cons aQ.bb (.one aJ)))
 have au:j<l.length:=by simpa using au
 obtain ⟨p,ay,c8⟩:=b8 (f:=a8) au;rw [drop_cons ay,Mo] at aq;obtain ⟨Mp,ac6⟩:=mP p (d5 ay);have ih:p.toNat<o.length:=by omega
 have Hs:o[p.toNat]? = some (o.getD p.toNat []):=by rw [d7,f7 ih];rfl
 have kR:=A4 _ (d5 Hs);have D6:(o.map bd)[p.toNat]? = some (bd (o.getD p.toNat [])):=by rw [ae4,Hs];rfl
 generalize o.getD p.toNat []=ol at aq Hs kR D6;have A5:p=(p.toNat:Int):=by omega
 have hw:=Ho ol 0 af;unfold a8 at c8;unfold bd at D6 hw;refine dG ?_;refine aa.idx ah p.toNat C C C C C C C C C C A5 D6 C ?_;refine gr ?_;cases ol with
 | nil=>
  have aq:iY o l=none:=aq;rw [aq];refine ae.fM C ?_;refine kp ?_;exact Fin.cB I C (aQ.cw (.cons (aQ.nil gN) (.one aJ)))
 | cons x r=>
  refine ae.cond C (fun h=>absurd h cV) (fun _=>?_);refine dG ?_;refine aa.idx ah p.toNat C C C C C C C C C C A5 D6 C ?_;refine dU ?_;refine aa.ec C C C C C hw ?_;refine dU ?_;refine aa.fO ah I C C C C C C C di C C C C C C C C aW gY pE af (fun bR I=>?_);refine fj ?_;exact bn.mk (j+1,acc++[fD 0 (x::r)],.own bR) I ⟨au,by rw [f6,kt];rfl,aq⟩ yK (by show aG _ [(_,.row _ _ (acc++[fD 0 (x::r)]).length)] _;rw [f6,ag8];exact aG.dB _) (by show l.length-(j+1)<l.length-j;omega)
theorem ae.A6 {P:Program} {N:Nat} {Q:b9→Env→ao→Prop} {env:Env} {s:ao} {c:Code} {L:a'} (I:Ok s L) (e:TypeId) (sz n:Nat) (h:Ok s ((.clip,.row e sz n)::L)→ae P N c Q env (aS s ((.clip,.row e sz n)::L))):ae P N c Q env (aS s L):=h ⟨trivial,I⟩
theorem aa.A6 {P:Program} {N:Nat} {ops:Array Oper} {Q:b9→Env→ao→Prop} {env:Env} {s:ao} {l:List Oper} {L:a'} (I:Ok s L) (e:TypeId) (sz n:Nat) (h:Ok s ((.clip,.row e sz n)::L)→aa P N ops l Q env (aS s ((.clip,.row e sz n)::L))):aa P N ops l Q env (aS s L):=h ⟨trivial,I⟩
theorem Ht:∀ (n:Nat) (l:List Int),l.Nodup→(∀ c∈l,0≤c∧c<(n:Int))→l.length≤n
  | 0,[],_,_=>g8 _
  | 0,c::r,_,h=>by have:=h c i6;omega
  | n+1,l,ax,h=>by
    by_cases hm:(n:Int)∈l
    · have U:=Ht n (l.erase (n:Int)) (ax.erase _) (fun c aB=>by
        obtain ⟨ad,al⟩:=ax.mem_erase_iff.1 aB
        have:=h c al
        omega)
      rw [List.length_erase_of_mem hm] at U;omega
    · have:=Ht n l ax (fun c aB=>by
        have U:=h c aB
        have:c≠(n:Int):=fun e=>hm (e ▸ aB)
        omega)
      omega
theorem Mq:∀ (k:Nat) (all:List (List Int)) (acc:List Int),acc.Nodup→(∀ c∈acc,∀ l∈all,c∉l)→(merge k all acc).1.Nodup
  | 0,_,_,h,_=>h
  | k+1,all,acc,h,ax=>by
    rw [merge];cases aF:pick all all with
    | none=>exact h
    | some d=>
      simp only;obtain ⟨t,aN⟩:=u2 aF;refine Mq k _ _ ?_ ?_
      · rw [List.nodup_append]
        exact ⟨h,by simp,fun a a6 b an=>by
          rw [H1] at an;subst an
          intro e;subst e
          exact ax a a6 _ aN i6⟩
      · intro c aB l aC
        obtain ⟨lH,U,rfl⟩:=af'.1 aC;unfold fD;rw [ah6];rintro ⟨ad,al⟩;rcases ae'.1 aB with aB|aB
        · exact ax c aB lH U ad
        · rw [H1] at aB;subst aB;simp at al
theorem Mr {q:Int→Prop}:∀ (k:Nat) (all:List (List Int)) (acc:List Int),(∀ l∈all,∀ c∈l,q c)→(∀ c∈acc,q c)→∀ c∈(merge k all acc).1,q c
  | 0,_,acc,_,h=>h
  | k+1,all,acc,a6,h=>by
    rw [merge];cases aF:pick all all with
    | none=>exact h
    | some d=>
      simp only;refine Mr k _ _ (fun l aC c aB=>?_) (fun c aB=>?_)
      · obtain ⟨lH,U,rfl⟩:=af'.1 aC
        exact a6 lH U c (ah6.1 aB).1
      · rcases ae'.1 aB with aB|aB
        · exact h c aB
        · rw [H1] at aB;subst aB
          obtain ⟨t,aN⟩:=u2 aF;exact a6 _ aN c i6
theorem Hu {q:Int→Prop} {o:List (List Int)} (ai:∀ l∈o,∀ c∈l,q c):∀ {l:List Int} {r:List (List Int)},iY o l=some r→∀ x∈r,∀ c∈x,q c
  | [],r,h,x,ab=>by cases h;cases ab
  | p::t,r,h,x,ab=>by
    rw [iY] at h;split at h
    · cases h
    · cases br:iY o t with
      | none=>rw [br] at h;cases h
      | some s=>
        rw [br] at h;cases h;rcases af2.1 ab with rfl|ab
        · intro c aB
          have aB:=(ah6.1 aB).1;rw [d7] at aB;cases aC:o[p.toNat]? with
          | none=>rw [aC] at aB;cases aB
          | some l=>rw [aC] at aB;exact ai l (d5 aC) c aB
        · exact Hu ai br x ab
structure Hv (n:Nat) (o:List (List Int)):Prop where
 len:∀ l∈o,l.length≤n+2
 Hw:∀ l∈o,∀ c∈l,0≤c∧c<(n:Int)
theorem U0 {g:List (List Int)} (av:sv g) {o:List (List Int)} {c:Nat} (aB:c<3+g.length) (ai:Hv (3+g.length) o):(order g o c).length≤3+g.length+2∧∀ x∈order g o c,0≤x∧x<((3+g.length:Nat):Int):=by
 unfold order;cases aC:lists g o c with
 | none=>exact ⟨by simp,fun x ab=>by cases ab⟩
 | some all=>
  simp only;split
  ·have aF:=av.parents c
   have gh:∀ l∈all,∀ c∈l,0≤c∧c<((3+g.length:Nat):Int):=by
    unfold lists at aC;cases br:iY o (parents g c) with
    | none=>rw [br] at aC;cases aC
    | some r=>
     rw [br] at aC;cases aC;intro l aC x ab;rcases ae'.1 aC with aC|aC
     ·exact Hu (q:=fun x=>0≤x∧x<((3+g.length:Nat):Int)) ai.Hw br l aC x ab
     ·rw [H1] at aC;subst aC
      have:=aF.2 x ab;omega
   have U:∀ x∈(merged all).1,0≤x∧x<((3+g.length:Nat):Int):=Mr _ all [] gh (fun c aB=>by cases aB);have ad:(merged all).1.Nodup:=Mq _ all [] List.nodup_nil (fun c aB=>by cases aB);have al:=Ht _ _ ad U;refine ⟨by rw [f6,g9,ag8];omega,fun x ab=>?_⟩;rcases ae'.1 ab with ab|ab
   ·rcases af2.1 ab with rfl|ab
    ·omega
    ·exact U x ab
   ·rw [H1] at ab;omega
  ·exact ⟨by simp,fun x ab=>by cases ab⟩
theorem A7 {g:List (List Int)} (av:sv g):∀ k,k<3+g.length→Hv (3+g.length) (fK g k)
  | 0,_=>⟨fun l aC=>by rw [fK,H1] at aC;subst aC;simp,fun l aC c aB=>by rw [fK,H1] at aC;subst aC;rw [H1] at aB;omega⟩
  | k+1,h=>by
    have a1:=A7 av k af;have U:=U0 av h a1;rw [fK];refine ⟨fun l aC=>?_,fun l aC=>?_⟩
    · rcases ae'.1 aC with aC|aC
      · exact a1.len l aC
      · rw [H1] at aC;subst aC;exact U.1
    · rcases ae'.1 aC with aC|aC
      · exact a1.Hw l aC
      · rw [H1] at aC;subst aC;exact U.2
theorem aQ.A8 {sz:Nat} {xs ys:List ag} {own:bN} (h:cU xs ys):aQ (.aA sz xs own) (.aA sz ys own):=fun w p v aw=>by
 cases aw with
 | h4 _ _ ai=>cases h;exact .h4 _ _ ai
 | iE a _ _ ai=>cases h;exact .iE a _ _ ai
 | aA g off n cap _ vs _ _ az aC aB aD ar hm aE cy ai=>exact .aA g off n cap _ vs _ _ az (by rw [aC];exact h.length) aB (h.rel aD) ar hm aE cy ai
theorem Hx {g:List (List Int)} (av:sv g) {o:List (List Int)} {c:Nat} (ai:Hv (3+g.length) o) {all:List (List Int)} (h:lists g o c=some all):rA 4 21 all:=by
 have aF:=av.parents c;have iK:=av.len;unfold lists at h;cases br:iY o (parents g c) with
 | none=>rw [br] at h;cases h
 | some r=>
  rw [br] at h;cases h;have aC:=Mm br;refine ⟨by rw [f6,ag8];omega,fun l aC=>?_⟩;rcases ae'.1 aC with aC|aC
  ·refine ⟨?_,fun x ab=>(Hu (q:=fun x=>0≤x) (fun l aC c aB=>(ai.Hw l aC c aB).1) br l aC x ab)⟩
   have key:∀ {l:List Int} {r:List (List Int)},iY o l=some r→∀ x∈r,x.length≤21:=by
    intro l
    induction l with
    | nil=>intro r h x ab;cases h;cases ab
    | cons p t a1=>
     intro r h x ab;rw [iY] at h;split at h
     ·cases h
     ·cases br:iY o t with
      | none=>rw [br] at h;cases h
      | some s=>
       rw [br] at h;cases h;rcases af2.1 ab with rfl|ab
       ·refine am' (yM _ _) ?_
        rw [d7];cases aC:o[p.toNat]? with
        | none=>simp
        | some l=>
         have:=ai.len l (d5 aC);show l.length≤21;omega
       ·exact a1 br x ab
   exact key br l aC
  ·rw [H1] at aC;subst aC
   exact ⟨by omega,fun x ab=>by have:=aF.2 x ab;omega⟩
theorem U1 (g:List (List Int)) (av:sv g):aT d0 219 [df g] (df (fK g (2+g.length))):=by
 have an:=bD;have iK:=av.len;obtain ⟨xs,c'⟩:∃ xs:Nat→List ag,∀ j,xs j=(fK g j).map bd:=⟨_,fun _=>rfl⟩;have bq:xs 0=[.aA 1 [.int .i64 0] .bb]:=by rw [c'];rfl
 have fm:∀ j,(xs j).length=j+1:=fun j=>by rw [c',d9,tK]
 refine aT.bh ah Tryz.func219 C C fun s I=>?_
 unfold df;refine fP ?_;refine ae.A6 I 23 1 1 fun I=>?_
 refine ae.b5 [0] C I (σ:=Nat×bN) (fun q=>[(4,.int .i64 ((q.1+1:Nat):Int)),(3,.aA 1 (xs q.1) q.2)]) (fun q=>[(q.2,.row 23 1 (xs q.1).length)]) (fun q=>q.1≤2+g.length) (fun q=>2+g.length-q.1) (0,.clip) (g7 _) ⟨⟨_,rfl,aJ⟩,⟨_,rfl,by rw [bq];exact aQ.A8 (.one aQ.bb)⟩,trivial⟩ (by rw [fm];exact aG.dB _) ?_;rintro ⟨j,own⟩ aL I;simp only at aL I ⊢;have w:t7 .i64 (3+((g.map bd).length:Int))=3+(g.length:Int):=by rw [d9,dz af af]
 refine b7 ?_;refine ae.cond C (fun au=>?_) (fun aV=>?_);rotate_left
 ·have aV:j=2+g.length:=by
   rw [w] at aV;have:=of_decide_eq_false aV;omega
  subst aV;rw [← c'];refine ez ?_;exact Fin.cB I C aQ.bb
 have au:j<2+g.length:=by
  rw [w] at au;have:=aj' au;omega
 have lY:=A7 av j af;have lL:=UZ g av (fK g j) (j+1) af (by rw [tK];exact g8 _) (by rw [tK];omega) (fun l aC=>by have:=lY.len l aC;omega);have ar:=c' (j+1);rw [fK,ad',← c'] at ar;have ar:xs (j+1)=xs j++[bd (order g (fK g j) (j+1))]:=ar;have cR:(xs (j+1)).length=(xs j).length+1:=by rw [ar];simp
 have l1:=fm j;unfold order at ar;have U2:cU [.aA 1 (g.map bd) .bb,.aA 1 (xs j) own,.int .i64 ((j+1:Nat):Int)] [df g,df (fK g j),.int .i64 ((j+1:Nat):Int)] := .cons aJ (.cons (by unfold df;rw [← c'];exact aQ.bb) (.one aJ));have lL:=aT.args U2 lL;cases aC:lists g (fK g j) (j+1) with
 | none=>
  rw [aC] at lL ar;unfold u5 df at lL;simp only at ar;refine bl ?_;refine aa.ec C C C C C lL ?_;refine bl ?_;refine aa.fO ah I C C C C C C C di C C C C C C C C aW gY pE af (fun bR I=>?_);refine fj ?_;exact bn.mk (j+1,.own bR) I au ⟨⟨_,rfl,aQ.of_eq (by rw [h7 af])⟩,⟨_,rfl,by rw [ar];exact aQ.A8 (cU.last (show aQ (.aA 0 [] .nil) (bd []) from aQ.nil gN) _)⟩,⟨_,rfl,aJ⟩,trivial⟩ GX G1
 | some all=>
  rw [aC] at lL ar;have hm:=UW 4 21 af all (Hx av lY aC);unfold u5 df at lL;unfold df bd at hm;simp only at ar;refine bl ?_;refine aa.ec C C C C C lL ?_;refine bl ?_;refine aa.ec C C C C C hm ?_;have ht:=Hq (total all+1) all [];have w6:=D5 (Hx av lY aC);cases w8:(merged all).2 with
  | false=>
   rw [w8] at ar;simp only [Bool.false_eq_true,ah'] at ar;refine bl ?_;refine aa.fO ah I C C C C C C C di C C C C C C C C aW gY pE af (fun bR I=>?_);refine fj ?_;exact bn.mk (j+1,.own bR) I au ⟨⟨_,rfl,aQ.of_eq (by rw [h7 af])⟩,⟨_,rfl,by rw [ar];exact aQ.A8 (cU.last (show aQ (.aA 0 [] .nil) (bd []) from aQ.nil gN) _)⟩,⟨_,rfl,aJ⟩,trivial⟩ GX G1
  | true=>
   rw [w8] at ar;simp only [ag7] at ar;have Hy:(merged all).1.length≤84:=by
    have:(merged all).1.length≤0+total all:=ht;omega
   generalize (merged all).1=m at hm ar Hy;have he:bd (((j+1:Nat):Int)::m++[0]) = .aA 1 ([.int .i64 ((j+1:Nat):Int)]++m.map a8++[.int .i64 0]) .bb:=by unfold bd;simp [a8]
   rw [he] at ar;refine bl ?_;refine aa.A6 I 3 1 1 fun I=>?_
   refine aa.rp ah I rfl rfl rfl rfl rfl rfl rfl di rfl rfl rfl rfl (.inr rfl) rfl (fun y ay=>by obtain ⟨z,-,rfl⟩:=af'.1 ay;rfl) C .here C (n':=m.length+1) cV cV cV (fun pQ I=>?_);refine dU ?_;refine aa.fO ah I C C C C C C C di C C C C C C C C aW gY jS af (fun fo I=>?_);refine fI ?_;refine aa.fO ah I C C C C C C C di C C C C C C C C aW gY pE af (fun bR I=>?_);refine fj ?_;exact bn.mk (j+1,.own bR) I au ⟨⟨_,rfl,aQ.of_eq (by rw [h7 af])⟩,⟨_,rfl,by rw [ar];exact aQ.A8 (cU.last aQ.bb _)⟩,⟨_,rfl,aJ⟩,trivial⟩ GX G1
theorem U3 (g:List (List Int)) (av:sv g) (c:Nat) (aB:c<3+g.length):aT d0 181 [df g,.int .i64 (c:Int)] (.cw [bd ((fK g (2+g.length)).getD c []),.bool (!((fK g (2+g.length)).getD c []).isEmpty)]):=by
 have ai:=U1 g av;have aC:=tK g (2+g.length);have cy:c<(fK g (2+g.length)).length:=by omega
 obtain ⟨l,ay,c8⟩:=b8 (f:=bd) cy;rw [d7,ay,af9];unfold df at ai ⊢;unfold bd at c8;refine aT.bh ah Tryz.func181 C C fun s I=>?_
 refine dt ?_;refine aa.ec C C C C C ai ?_;refine bl ?_;refine Fin.cB I C (aQ.cw (.cons aJ (.one (aQ.of_eq ?_))));congr 1;cases l<;>simp
theorem aG.all:∀ L:a',aG L L []
 | [] => .nil
 | (_,_)::L => .cons .here (aG.all L)
namespace ak
mutual
def bK:ak→ag
 | .mk o a p c n ks => .agg [.int .i64 o,.int .i64 a,.aA 1 (p.map fun i => .int .i64 i) .bb,.int .i64 c,.int .i64 n,.aA 6 (D7 ks) .bb]
def D7:List ak→List ag
 | []=>[]
 | k::r=>k.bK::D7 r
end
theorem Ms:∀ l:List ak,D7 l=l.map bK
 | []=>rfl
 | k::r=>by rw [D7,ae3,Ms r]
def cells (x:ak):List ag:=[.int .i64 x.op,.int .i64 x.arg,.aA 1 (x.path.map fun i => .int .i64 i) .bb,.int .i64 x.cls,.int .i64 x.n,.aA 6 (x.kids.map bK) .bb]
theorem b6 (x:ak):x.bK = .agg x.cells:=by cases x;rw [bK,Ms];rfl
end ak
def fE (w:bz):List ag:=[df w.ps,bd w.owner]
def fz (w:bz):ag := .agg (fE w)
def w9 (x:iZ):ag := .agg [.int .i64 x.slot,.int .i64 x.n]
def nt (c:fR):List ag:=[bd c.parents,bd c.bp,.aA 2 (c.inits.map w9) .bb]
def jo (c:fR):ag := .agg (nt c)
def n2 (m:h9):List ag:=[.int .i64 m.kind,.int .i64 m.gen,.int .i64 m.fact.op,.int .i64 m.fact.arg,.aA 1 (m.fact.path.map fun i => .int .i64 i) .bb,.int .i64 m.fact.cls,.int .i64 m.fact.n,.aA 6 (m.fact.kids.map ak.bK) .bb,.int .i64 m.node]
def lM (m:h9):ag := .agg (n2 m)
def la (x:i'):List ag:=[.int .i64 x.op,.int .i64 x.n,bd x.kids]
def jq (x:i'):ag := .agg (la x)
def cZ (p:bT):List ag:=[.aA 3 (p.cm.map jo) .bb,.int .i64 p.bp,bd p.ef,.aA 9 (p.methods.map lM) .bb,.aA 3 (p.nodes.map jq) .bb,.int .i64 p.main]
def cW (p:bT):ag := .agg (cZ p)
def ha (x:bP):List ag:=[.int .i64 x.atom,.int .i64 x.no,.int .i64 x.yes,bd x.ms]
def eN (x:bP):ag := .agg (ha x)
theorem eF.Mt {P:Program} {fv:ag} {args:List ag} {v:ag} (h:eF P fv args v):dA P fv args [] (fun o K=>o = .ret v∧K=[]):=fun s _=>hY.mono (h s) (fun o aj ⟨U,ad⟩=>⟨[],ad,trivial,U,rfl⟩)
theorem bA.Hz {P:Program} {f:FuncId} {args:List ag} {v:ag} (h:bA P f args [] (fun o K=>o = .ret v∧K=[])):aT P f args v:=fun s=>hp.mono (h s trivial) (fun o aj ⟨K,U,_,ad,al⟩=>⟨ad,by subst al;exact U⟩)
theorem Mu {α:Type} (q:α→Bool):∀ (xs:List α) (j:Nat) (x:α),xs[j]? = some x→q x=true→(∀ (i:Nat) y,i<j→xs[i]? = some y→q y=false)→xs.findIdx? q=some j:=by
 intro xs j x ab br aR;obtain ⟨U,ad⟩:=ae2.1 ab;rw [ah3];exact ⟨U,by rw [ad];exact br,fun i eU=>by rw [aR i xs[i] eU (f7 _)];simp⟩
theorem Mv {α:Type} (q:α→Bool) (xs:List α) (aR:∀ (i:Nat) y,xs[i]? = some y→q y=false):xs.findIdx? q=none:=by
 rw [ai2];intro x ab;obtain ⟨i,h⟩:=ai0 ab;exact aR i x h
theorem U4 {α:Type} {f:FuncId} {fv bu:ag} {bK:α→ag} {xs:List α} {q:α→Bool}
  (ar:∀ (T:Nat→a') (cq:Nat→Bool),(∀ j x,xs[j]? = some x→(∀ i,i<j→cq i=false)→dA d0 fv [bK x] (T j) (fun o K=>o = .ret (.bool (cq j))∧K=T (j+1)))→bA d0 f [bu,fv] (T 0)
   (fun o K=>(o = .ret (.int .i64 (-1))∧K=T xs.length∧∀ i,i<xs.length→cq i=false)∨∃ j,j<xs.length∧cq j=true∧(∀ i,i<j→cq i=false)∧o = .ret (.int .i64 (j:Int))∧K=T (j+1)))
  (h:∀ x∈xs,eF d0 fv [bK x] (.bool (q x))):aT d0 f [bu,fv] (.int .i64 (match xs.findIdx? q with|some i=>(i:Int)|none => -1)):=by
 have:=ar (fun _=>[]) (fun j=>match xs[j]? with|some x=>q x|none=>false) (fun j x ab _=>by rw [ab];exact eF.Mt (h x (d5 ab)));refine bA.Hz (bA.mono this ?_);rintro o K (⟨rfl,rfl,U⟩|⟨j,U,ad,al,rfl,rfl⟩)
 ·rw [Mv q xs (fun i y ay=>by have:=U i (qs ay);rw [ay] at this;exact this)]
  exact ⟨rfl,rfl⟩
 ·have ab:=f7 U
  rw [ab] at ad;rw [Mu q xs j _ ab ad (fun i y eU ay=>by have:=al i eU;rw [ay] at this;exact this)];exact ⟨rfl,rfl⟩
theorem A9 {α:Type} {f:FuncId} {fv bu:ag} {bK:α→ag} {xs:List α} {q:α→Bool}
  (ar:∀ (T:Nat→a') (cq:Nat→Bool),(∀ j x,xs[j]? = some x→(∀ i,i<j→cq i=false)→dA d0 fv [bK x] (T j) (fun o K=>o = .ret (.bool (cq j))∧K=T (j+1)))→bA d0 f [bu,fv] (T 0)
   (fun o K=>(o = .ret (.bool false)∧K=T xs.length∧∀ i,i<xs.length→cq i=false)∨∃ j,j<xs.length∧cq j=true∧(∀ i,i<j→cq i=false)∧o = .ret (.bool true)∧K=T (j+1)))
  (h:∀ x∈xs,eF d0 fv [bK x] (.bool (q x))):aT d0 f [bu,fv] (.bool (xs.any q)):=by
 have:=ar (fun _=>[]) (fun j=>match xs[j]? with|some x=>q x|none=>false) (fun j x ab _=>by rw [ab];exact eF.Mt (h x (d5 ab)));refine bA.Hz (bA.mono this ?_);rintro o K (⟨rfl,rfl,U⟩|⟨j,U,ad,al,rfl,rfl⟩)
 ·have:xs.any q=false:=by
   rw [List.any_eq_false];intro x ab;obtain ⟨i,aR⟩:=ai0 ab;have:=U i (qs aR);rw [aR] at this;simpa using this
  rw [this];exact ⟨rfl,rfl⟩
 ·have ab:=f7 U
  rw [ab] at ad;have:xs.any q=true:=ag4.2 ⟨_,an6 U,ad⟩;rw [this];exact ⟨rfl,rfl⟩
def gk (v:Int×Int):ag := .agg [.int .i64 v.1,.int .i64 v.2]
def jc (x:eV):ag := .agg [.int .i64 x.cls,.aA 2 (x.bp.map gk) .bb]
theorem Mw (fv:ag) (xs:List ak) (T:Nat→a') (cq:Nat→Bool) (aC:xs.length<bC) (h:∀ j x,xs[j]? = some x→(∀ i,i<j→cq i=false)→dA d0 fv [ak.bK x] (T j) (fun o K=>o = .ret (.bool (cq j))∧K=T (j+1))) :
  bA d0 150 [.aA 6 (xs.map ak.bK) .bb,fv] (T 0)
   (fun o K=>(o = .ret (.int .i64 (-1))∧K=T xs.length∧∀ i,i<xs.length→cq i=false)∨∃ j,j<xs.length∧cq j=true∧(∀ i,i<j→cq i=false)∧o = .ret (.int .i64 (j:Int))∧K=T (j+1)):=by
 have an:=bD;refine bA.bh ah Tryz.func150 C C fun s I=>?_
 refine fP ?_;refine ae.yJ I (σ:=Nat) (fun j=>[(0,.aA 6 (xs.map ak.bK) .bb),(1,fv),(7,.int .i64 xs.length),(8,.int .i64 (j:Int))]) T (fun j=>j≤xs.length∧∀ i,i<j→cq i=false) (fun j=>xs.length-j) 0 ⟨by omega,fun i aR=>by omega⟩ AL (aG.all _) ?_;rintro j ⟨aL,aq⟩ I;refine b7 ?_;refine ae.cond C (fun au=>?_) (fun aV=>?_)
 ·have au:j<xs.length:=by simpa using au
  obtain ⟨x,ab,bL⟩:=b8 (f:=ak.bK) au;have aw:=h j x ab aq
  try rw [ak.b6] at bL aw
  refine bl ?_;refine aa.gM rfl rfl rfl rfl rfl rfl aw I (aG.all _) ?_ (fun _ _ ⟨h,_⟩ _=>by cases h);rintro _ _ ⟨⟨⟩,rfl⟩ I;rw [d6] at I ⊢;cases oQ:cq j with
  | true=>
   refine bl ?_;exact Fin.bs I C aJ (aG.all _) (.inr ⟨j,au,oQ,aq,rfl,rfl⟩)
  | false=>
   refine bl ?_
   exact bn.mk (j+1) I ⟨au,fun i aR=>by
    rcases ah5.1 aR with aR|rfl
    ·exact aq i aR
    ·exact oQ⟩ cj (aG.all _) sl
 ·have aV:j=xs.length:=by
   have:xs.length≤j:=by simpa using aV
   omega
  subst aV;refine ez ?_;exact Fin.bs I C aJ (aG.all _) (.inl ⟨rfl,rfl,aq⟩)
theorem HA (fv:ag) (xs:List ak) (T:Nat→a') (cq:Nat→Bool) (aC:xs.length<bC) (h:∀ j x,xs[j]? = some x→(∀ i,i<j→cq i=false)→dA d0 fv [ak.bK x] (T j) (fun o K=>o = .ret (.bool (cq j))∧K=T (j+1))) :
  bA d0 102 [.aA 6 (xs.map ak.bK) .bb,fv] (T 0)
   (fun o K=>(o = .ret (.bool false)∧K=T xs.length∧∀ i,i<xs.length→cq i=false)∨∃ j,j<xs.length∧cq j=true∧(∀ i,i<j→cq i=false)∧o = .ret (.bool true)∧K=T (j+1)):=by
 refine bA.bh ah Tryz.func102 C C fun s I=>?_
 refine dt ?_;refine aa.bX rfl rfl rfl rfl rfl (Mw fv xs T cq aC h) I (aG.all _) ?_ (fun _ _ h _=>by rcases h with ⟨h,_⟩|⟨_,_,_,_,h,_⟩<;>cases h);rintro _ _ (⟨⟨⟩,rfl,U⟩|⟨j,U,ad,al,⟨⟩,rfl⟩) I
 all_goals rw [d6] at I ⊢
 ·refine er ?_
  exact Fin.bs I C aJ (aG.all _) (.inl ⟨rfl,rfl,U⟩)
 ·refine er ?_
  exact Fin.bs I C (by simp;exact aJ) (aG.all _) (.inr ⟨j,U,ad,al,rfl,rfl⟩)
theorem U5 (fv:ag) (q:ak→Bool) (xs:List ak) (aC:xs.length<bC) (h:∀ x∈xs,eF d0 fv [ak.bK x] (.bool (q x))) :
  aT d0 102 [.aA 6 (xs.map ak.bK) .bb,fv] (.bool (xs.any q)):=
 A9 (fun T cq eG=>HA fv xs T cq aC eG) h
theorem U6 (fv:ag) (q:ak→Bool) (xs:List ak) (aC:xs.length<bC) (h:∀ x∈xs,eF d0 fv [ak.bK x] (.bool (q x))) :
  aT d0 150 [.aA 6 (xs.map ak.bK) .bb,fv] (.int .i64 (match xs.findIdx? q with|some i=>(i:Int)|none => -1)):=
 U4 (fun T cq eG=>Mw fv xs T cq aC eG) h
theorem U7 (fv:ag) (xs:List Int) (T:Nat→a') (cq:Nat→Bool) (aC:xs.length<bC) (h:∀ j x,xs[j]? = some x→(∀ i,i<j→cq i=false)→dA d0 fv [a8 x] (T j) (fun o K=>o = .ret (.bool (cq j))∧K=T (j+1))) :
  bA d0 90 [.aA 1 (xs.map a8) .bb,fv] (T 0)
   (fun o K=>(o = .ret (.int .i64 (-1))∧K=T xs.length∧∀ i,i<xs.length→cq i=false)∨∃ j,j<xs.length∧cq j=true∧(∀ i,i<j→cq i=false)∧o = .ret (.int .i64 (j:Int))∧K=T (j+1)):=by
 have an:=bD;refine bA.bh ah Tryz.func90 C C fun s I=>?_
 refine fP ?_;refine ae.yJ I (σ:=Nat) (fun j=>[(0,.aA 1 (xs.map a8) .bb),(1,fv),(7,.int .i64 xs.length),(8,.int .i64 (j:Int))]) T (fun j=>j≤xs.length∧∀ i,i<j→cq i=false) (fun j=>xs.length-j) 0 ⟨by omega,fun i aR=>by omega⟩ AL (aG.all _) ?_;rintro j ⟨aL,aq⟩ I;refine b7 ?_;refine ae.cond C (fun au=>?_) (fun aV=>?_)
 ·have au:j<xs.length:=by simpa using au
  obtain ⟨x,ab,bL⟩:=b8 (f:=a8) au;have aw:=h j x ab aq
  try rw [a8] at bL aw
  refine bl ?_;refine aa.gM rfl rfl rfl rfl rfl rfl aw I (aG.all _) ?_ (fun _ _ ⟨h,_⟩ _=>by cases h);rintro _ _ ⟨⟨⟩,rfl⟩ I;rw [d6] at I ⊢;cases oQ:cq j with
  | true=>
   refine bl ?_;exact Fin.bs I C aJ (aG.all _) (.inr ⟨j,au,oQ,aq,rfl,rfl⟩)
  | false=>
   refine bl ?_
   exact bn.mk (j+1) I ⟨au,fun i aR=>by
    rcases ah5.1 aR with aR|rfl
    ·exact aq i aR
    ·exact oQ⟩ cj (aG.all _) sl
 ·have aV:j=xs.length:=by
   have:xs.length≤j:=by simpa using aV
   omega
  subst aV;refine ez ?_;exact Fin.bs I C aJ (aG.all _) (.inl ⟨rfl,rfl,aq⟩)
theorem Mx (fv:ag) (xs:List Int) (T:Nat→a') (cq:Nat→Bool) (aC:xs.length<bC) (h:∀ j x,xs[j]? = some x→(∀ i,i<j→cq i=false)→dA d0 fv [a8 x] (T j) (fun o K=>o = .ret (.bool (cq j))∧K=T (j+1))) :
  bA d0 40 [.aA 1 (xs.map a8) .bb,fv] (T 0)
   (fun o K=>(o = .ret (.bool false)∧K=T xs.length∧∀ i,i<xs.length→cq i=false)∨∃ j,j<xs.length∧cq j=true∧(∀ i,i<j→cq i=false)∧o = .ret (.bool true)∧K=T (j+1)):=by
 refine bA.bh ah Tryz.func40 C C fun s I=>?_
 refine dt ?_;refine aa.bX rfl rfl rfl rfl rfl (U7 fv xs T cq aC h) I (aG.all _) ?_ (fun _ _ h _=>by rcases h with ⟨h,_⟩|⟨_,_,_,_,h,_⟩<;>cases h);rintro _ _ (⟨⟨⟩,rfl,U⟩|⟨j,U,ad,al,⟨⟩,rfl⟩) I
 all_goals rw [d6] at I ⊢
 ·refine er ?_
  exact Fin.bs I C aJ (aG.all _) (.inl ⟨rfl,rfl,U⟩)
 ·refine er ?_
  exact Fin.bs I C (by simp;exact aJ) (aG.all _) (.inr ⟨j,U,ad,al,rfl,rfl⟩)
theorem U8 (fv:ag) (q:Int→Bool) (xs:List Int) (aC:xs.length<bC) (h:∀ x∈xs,eF d0 fv [a8 x] (.bool (q x))) :
  aT d0 40 [.aA 1 (xs.map a8) .bb,fv] (.bool (xs.any q)):=
 A9 (fun T cq eG=>Mx fv xs T cq aC eG) h
theorem U9 (fv:ag) (xs:List (Int×Int)) (T:Nat→a') (cq:Nat→Bool) (aC:xs.length<bC) (h:∀ j x,xs[j]? = some x→(∀ i,i<j→cq i=false)→dA d0 fv [gk x] (T j) (fun o K=>o = .ret (.bool (cq j))∧K=T (j+1))) :
  bA d0 241 [.aA 2 (xs.map gk) .bb,fv] (T 0)
   (fun o K=>(o = .ret (.int .i64 (-1))∧K=T xs.length∧∀ i,i<xs.length→cq i=false)∨∃ j,j<xs.length∧cq j=true∧(∀ i,i<j→cq i=false)∧o = .ret (.int .i64 (j:Int))∧K=T (j+1)):=by
 have an:=bD;refine bA.bh ah Tryz.func241 C C fun s I=>?_
 refine fP ?_;refine ae.yJ I (σ:=Nat) (fun j=>[(0,.aA 2 (xs.map gk) .bb),(1,fv),(7,.int .i64 xs.length),(8,.int .i64 (j:Int))]) T (fun j=>j≤xs.length∧∀ i,i<j→cq i=false) (fun j=>xs.length-j) 0 ⟨by omega,fun i aR=>by omega⟩ AL (aG.all _) ?_;rintro j ⟨aL,aq⟩ I;refine b7 ?_;refine ae.cond C (fun au=>?_) (fun aV=>?_)
 ·have au:j<xs.length:=by simpa using au
  obtain ⟨x,ab,bL⟩:=b8 (f:=gk) au;have aw:=h j x ab aq
  try rw [gk] at bL aw
  refine bl ?_;refine aa.gM rfl rfl rfl rfl rfl rfl aw I (aG.all _) ?_ (fun _ _ ⟨h,_⟩ _=>by cases h);rintro _ _ ⟨⟨⟩,rfl⟩ I;rw [d6] at I ⊢;cases oQ:cq j with
  | true=>
   refine bl ?_;exact Fin.bs I C aJ (aG.all _) (.inr ⟨j,au,oQ,aq,rfl,rfl⟩)
  | false=>
   refine bl ?_
   exact bn.mk (j+1) I ⟨au,fun i aR=>by
    rcases ah5.1 aR with aR|rfl
    ·exact aq i aR
    ·exact oQ⟩ cj (aG.all _) sl
 ·have aV:j=xs.length:=by
   have:xs.length≤j:=by simpa using aV
   omega
  subst aV;refine ez ?_;exact Fin.bs I C aJ (aG.all _) (.inl ⟨rfl,rfl,aq⟩)
theorem U' (fv:ag) (xs:List (Int×Int)) (T:Nat→a') (cq:Nat→Bool) (aC:xs.length<bC) (h:∀ j x,xs[j]? = some x→(∀ i,i<j→cq i=false)→dA d0 fv [gk x] (T j) (fun o K=>o = .ret (.bool (cq j))∧K=T (j+1))) :
  bA d0 207 [.aA 2 (xs.map gk) .bb,fv] (T 0)
   (fun o K=>(o = .ret (.bool false)∧K=T xs.length∧∀ i,i<xs.length→cq i=false)∨∃ j,j<xs.length∧cq j=true∧(∀ i,i<j→cq i=false)∧o = .ret (.bool true)∧K=T (j+1)):=by
 refine bA.bh ah Tryz.func207 C C fun s I=>?_
 refine dt ?_;refine aa.bX rfl rfl rfl rfl rfl (U9 fv xs T cq aC h) I (aG.all _) ?_ (fun _ _ h _=>by rcases h with ⟨h,_⟩|⟨_,_,_,_,h,_⟩<;>cases h);rintro _ _ (⟨⟨⟩,rfl,U⟩|⟨j,U,ad,al,⟨⟩,rfl⟩) I
 all_goals rw [d6] at I ⊢
 ·refine er ?_
  exact Fin.bs I C aJ (aG.all _) (.inl ⟨rfl,rfl,U⟩)
 ·refine er ?_
  exact Fin.bs I C (by simp;exact aJ) (aG.all _) (.inr ⟨j,U,ad,al,rfl,rfl⟩)
theorem Va (fv:ag) (q:(Int×Int)→Bool) (xs:List (Int×Int)) (aC:xs.length<bC) (h:∀ x∈xs,eF d0 fv [gk x] (.bool (q x))) :
  aT d0 207 [.aA 2 (xs.map gk) .bb,fv] (.bool (xs.any q)):=
 A9 (fun T cq eG=>U' fv xs T cq aC eG) h
theorem Vb (fv:ag) (xs:List eV) (T:Nat→a') (cq:Nat→Bool) (aC:xs.length<bC) (h:∀ j x,xs[j]? = some x→(∀ i,i<j→cq i=false)→dA d0 fv [jc x] (T j) (fun o K=>o = .ret (.bool (cq j))∧K=T (j+1))) :
  bA d0 264 [.aA 2 (xs.map jc) .bb,fv] (T 0)
   (fun o K=>(o = .ret (.int .i64 (-1))∧K=T xs.length∧∀ i,i<xs.length→cq i=false)∨∃ j,j<xs.length∧cq j=true∧(∀ i,i<j→cq i=false)∧o = .ret (.int .i64 (j:Int))∧K=T (j+1)):=by
 have an:=bD;refine bA.bh ah Tryz.func264 C C fun s I=>?_
 refine fP ?_;refine ae.yJ I (σ:=Nat) (fun j=>[(0,.aA 2 (xs.map jc) .bb),(1,fv),(7,.int .i64 xs.length),(8,.int .i64 (j:Int))]) T (fun j=>j≤xs.length∧∀ i,i<j→cq i=false) (fun j=>xs.length-j) 0 ⟨by omega,fun i aR=>by omega⟩ AL (aG.all _) ?_;rintro j ⟨aL,aq⟩ I;refine b7 ?_;refine ae.cond C (fun au=>?_) (fun aV=>?_)
 ·have au:j<xs.length:=by simpa using au
  obtain ⟨x,ab,bL⟩:=b8 (f:=jc) au;have aw:=h j x ab aq
  try rw [jc] at bL aw
  refine bl ?_;refine aa.gM rfl rfl rfl rfl rfl rfl aw I (aG.all _) ?_ (fun _ _ ⟨h,_⟩ _=>by cases h);rintro _ _ ⟨⟨⟩,rfl⟩ I;rw [d6] at I ⊢;cases oQ:cq j with
  | true=>
   refine bl ?_;exact Fin.bs I C aJ (aG.all _) (.inr ⟨j,au,oQ,aq,rfl,rfl⟩)
  | false=>
   refine bl ?_
   exact bn.mk (j+1) I ⟨au,fun i aR=>by
    rcases ah5.1 aR with aR|rfl
    ·exact aq i aR
    ·exact oQ⟩ cj (aG.all _) sl
 ·have aV:j=xs.length:=by
   have:xs.length≤j:=by simpa using aV
   omega
  subst aV;refine ez ?_;exact Fin.bs I C aJ (aG.all _) (.inl ⟨rfl,rfl,aq⟩)
theorem Vc (fv:ag) (xs:List eV) (T:Nat→a') (cq:Nat→Bool) (aC:xs.length<bC) (h:∀ j x,xs[j]? = some x→(∀ i,i<j→cq i=false)→dA d0 fv [jc x] (T j) (fun o K=>o = .ret (.bool (cq j))∧K=T (j+1))) :
  bA d0 239 [.aA 2 (xs.map jc) .bb,fv] (T 0)
   (fun o K=>(o = .ret (.bool false)∧K=T xs.length∧∀ i,i<xs.length→cq i=false)∨∃ j,j<xs.length∧cq j=true∧(∀ i,i<j→cq i=false)∧o = .ret (.bool true)∧K=T (j+1)):=by
 refine bA.bh ah Tryz.func239 C C fun s I=>?_
 refine dt ?_;refine aa.bX rfl rfl rfl rfl rfl (Vb fv xs T cq aC h) I (aG.all _) ?_ (fun _ _ h _=>by rcases h with ⟨h,_⟩|⟨_,_,_,_,h,_⟩<;>cases h);rintro _ _ (⟨⟨⟩,rfl,U⟩|⟨j,U,ad,al,⟨⟩,rfl⟩) I
 all_goals rw [d6] at I ⊢
 ·refine er ?_
  exact Fin.bs I C aJ (aG.all _) (.inl ⟨rfl,rfl,U⟩)
 ·refine er ?_
  exact Fin.bs I C (by simp;exact aJ) (aG.all _) (.inr ⟨j,U,ad,al,rfl,rfl⟩)
theorem Vd (fv:ag) (q:eV→Bool) (xs:List eV) (aC:xs.length<bC) (h:∀ x∈xs,eF d0 fv [jc x] (.bool (q x))) :
  aT d0 239 [.aA 2 (xs.map jc) .bb,fv] (.bool (xs.any q)):=
 A9 (fun T cq eG=>Vc fv xs T cq aC eG) h
theorem My {s s1:ao} {w dm:World} {p lb:bV} {T:TypeId} {v:Value} {b:Nat} (hle:dg w p dm lb) (aE:Kept s s1 w p dm lb) (cf:dx dm lb s1) (A':dm.heap[b]? = some (.cells #[v] T (0,0)))
  (an:w.heap.size≤b) (aF:∀ o,¬ lb b o) (ar:s1 b=none) (x:Value) :
  dg w p (dm.setRow b #[x]) lb∧Kept s s1 w p (dm.setRow b #[x]) lb∧dx (dm.setRow b #[x]) lb s1∧dg dm lb (dm.setRow b #[x]) lb∧(dm.setRow b #[x]).heap[b]? = some (.cells #[x] T (0,0)):=by
 have k7:dx dm lb (s1.set b (.box T [.any])):=by
  refine ⟨fun aY o dO=>?_,cf.lt⟩;by_cases e:aY=b
  ·subst e;rw [ao.gn] at dO;cases dO
   exact ⟨_,A',.cons _ _ _ _ (.any v) .nil,aF⟩
  ·rw [ao.fG _ _ e] at dO;exact cf.obj aY o dO
 obtain ⟨cE,dq,fl⟩:=wm k7 (ao.gn _ _ _) (vs' := #[x]) (cs':=[.any]) (fun vs aw=>by rw [A'] at aw;cases aw;rfl) (.cons _ _ _ _ (.any x) .nil) _ C;have Ve:∀ aY,aY≠b→(dm.setRow b #[x]).heap[aY]? = dm.heap[aY]?:=by
  intro aY dO;simp only [World.setRow];rw [ao8,f0 (Ne.symm dO)]
 refine ⟨hle.trans cE,⟨fun aY dO az=>(Ve aY af).trans (aE.heap aY dO az),aE.k2,aE.ly⟩,fl.sub (fun aY=>?_),cE,?_⟩
 ·by_cases e:aY=b
  ·subst e;exact .inr ar
  ·left;rw [ao.fG _ _ e,ao.fG _ _ e]
 ·simp only [World.setRow]
  rw [ao8,g6 C,A'];rfl
theorem Mz {w:World} {b:Nat} {v x:Value} {T:TypeId} (h:w.heap[b]? = some (.cells #[v] T (0,0))):w.setCell ⟨b,0,none⟩ x=w.setRow b #[x]:=by
 simp only [World.setCell,World.setRow];congr 1;refine aw7 fun i=>?_
 rw [ao8,ao8];by_cases e:b=i
 ·subst e;rw [g6 C,g6 C,h];rfl
 ·rw [f0 e,f0 e]
theorem HB:∀ {rest:List PanicEntry},(∀ e∈rest,e.goexit=false)→rest.dropWhile (fun e => !e.goexit)=[]
 | [],_=>rfl
 | e::r,h=>by rw [List.dropWhile_cons,h e i6];simp only [aj3,ag7];exact HB fun e' he=>h e' (i0 _ he)
theorem ae.use {P:Program} {N:Nat} {c:Code} {Q:b9→Env→ao→Prop} {env:Env} {s:ao} (h:ae P N c Q env s) {b:Frame} {B:fV} {a:Act} {w:World} {p:bV} (a7:(P.funcs[b.fn]?).isSome=true) (aI:dI N B b.roundOf env s a w p) :
  jZ P b c (kz N B b.roundOf s w p Q) a w:=h b B a w p a7 aI
theorem dA.frame {P:Program} {fv:ag} {args:List ag} {K L R:a'} {aef D:eC→a'→Prop} (h:dA P fv args K aef) (ar:aG L K R) (fa:∀ o aO,aef o aO→D o (aO++R)):dA P fv args L D:=
 fun s I=>(h.at I ar).mono fun o aj ⟨Vf,e,yW,aO,HC,HD⟩=>by
  subst HC;exact ⟨_,e,yW,fa o aO HD⟩
theorem aZ.HE {P:Program} {Γ:cA} {N:Nat} {env:Env} {s:ao} {o:Oper} (aP:bQ P Γ) {t yt e:TypeId} {x:Operand} {it:bO} {sz:Nat} {xs:List ag} {own:bN} (ai:o.op = .binOp .eql t x (.const (.slice none 0 0)) yt)
  (aN:Γ.get? t=some it) (bt:it.bF = .aA e) (ab:aM env x=some (.aA sz xs own)) {X:ag→ao→Prop} :
  aZ P N o env s (fun r aj=>aj=s∧((r = .bool true∧xs=[])∨r = .bool false)) X:=by
 refine aZ.kB (by simp [Go.Proofs.YtnafpeohfbglmaaGreat.gJ,ai]) fun ro B a w p aI=>?_
 obtain ⟨info,d,U,ad,al,bf,bE,hf⟩:=aP.parts aN;have hu:=aI.aM ab;have ax:∃ e,d = .slice e:=by
  rw [bt] at al;cases d<;>simp [eB] at al<;>exact ⟨_,rfl⟩
 obtain ⟨e',rfl⟩:=ax;have cS:∀ q,(binOp .eql t (a.eval x) (.slice none 0 0)).run P w = .ok (.bool q) w→(∀ c,a.eval x ≠ .agg c)→(execOp a.eval o).run P w = .ok (.value (.bool q)) w:=by
  intro q br aB;unfold execOp;rw [ai];refine gV ?_;show (do eqGuard .eql t x (.const (.slice none 0 0)) (a.eval x) (.slice none 0 0);binOp .eql t (a.eval x) (.slice none 0 0):Sem Value).run P w=_;rw [ac',tg w ⟨fun _=>⟨_,rfl⟩,aB⟩,i5,br]
 generalize a.eval x=dR at hu cS;cases hu with
 | h4 _ _ _=>exact ⟨_,_,s,p,.bool true,cS true (wc C C (fun d=>by simp [Op.equalIn,run_underlying ad])).1 ba,.refl w p,.refl s w p,aI.wf,⟨rfl,.inl ⟨rfl,rfl⟩⟩,.bool _⟩
 | iE a _ _ _=>exact ⟨_,_,s,p,.bool false,cS false (wc C C (fun d=>by simp [Op.equalIn,run_underlying ad])).1 ba,.refl w p,.refl s w p,aI.wf,⟨rfl,.inr C⟩,.bool _⟩
 | aA g off n cap _ vs _ _ az aC aB aD ar hm aE cy ai=>exact ⟨_,_,s,p,.bool false,cS false (wc C C (fun d=>by simp [Op.equalIn,run_underlying ad])).1 ba,.refl w p,.refl s w p,aI.wf,⟨rfl,.inr C⟩,.bool _⟩
def aK (J:ao→Prop) (P:Program) (Γ:cA) (N:Nat) (l:List Oper) (i:Nat) (rest:List Oper) (Q:b9→Env→ao→Prop) (env:Env) (s:ao):Prop:=
 sf l.toArray=true→l.drop i=rest→J s→bg J P Γ N l.toArray Q (bZ (2^i-1)) env s
theorem D8 (i:Nat):(2^i-1)|||2^i=2^(i+1)-1:=by
 apply an7;intro j;rw [am4,ai3,ai3,al7];by_cases h:i=j
 ·subst h;simp
 ·by_cases ad:j<i
  ·simp [ad];omega
  ·simp [ad,h];omega
theorem xa {α:Type} {l:List α} {i:Nat} {o:α} {rest:List α} (h:l.drop i=o::rest):l[i]? = some o∧l.drop (i+1)=rest:=by
 have U:l[i]? = some o:=by
  have:=ae7 (fun x=>x[0]?) h;simpa using this
 refine ⟨U,?_⟩;have:l.drop (i+1)=(l.drop i).drop 1:=by rw [List.drop_drop]
 rw [this,h];rfl
theorem HF {l:List Oper} (dK:sf l.toArray=true) {i:Nat} {o:Oper} (ai:l[i]? = some o):hq l.toArray (bZ (2^i-1)) i:=by
 refine ⟨by simpa using (ae2.1 ai).1,?_,fun j aL=>?_⟩
 ·simp [bZ,ai3]
 ·have:=(Gx dK).back i j aL
  simp [bZ,ai3,this]
section
variable {J:ao→Prop} {P:Program} {Γ:cA} {N:Nat} {l:List Oper} {i:Nat} {rest:List Oper} {Q:b9→Env→ao→Prop} {env:Env} {s:ao} {o:Oper} {d:Nat}
theorem ae.l6 (aP:bQ P Γ) (hm:P.follows .mixedOrders=true) {id:Nat} (dK:sf l.toArray=true) (h:aK (fun aj=>aj=s) P Γ N l 0 l Q env s):ae P N (.region id l.toArray true) Q env s:=
 ae.nf _ aP hm dK (h dK C C)
theorem ae.uY (aP:bQ P Γ) (hm:P.follows .mixedOrders=true) {id:Nat} (dK:sf l.toArray=true) (h:aK kH P Γ N l 0 l Q env s):ae P N (.region id l.toArray true) Q env s:=
 ae.nf _ aP hm dK (h dK C trivial)
theorem aK.nil (h:Q .normal env s):aK J P Γ N l i [] Q env s:=fun dK jJ _=>by
 refine bg.fin (fun j aL=>?_) h;have:l.length≤i:=by simpa using jJ
 have aL:j<l.length:=by simpa using aL
 simp [bZ,ai3];omega
theorem aK.still {v:ag} (ax:o.dst=some d) (aU:d<N) (aw:Still J P Γ N l.toArray o (b4 l env o) v) (h:aK J P Γ N l (i+1) rest Q ((d,v)::env) s):aK J P Γ N l i (o::rest) Q env s:=fun dK jJ cO=>by
 obtain ⟨ai,rB⟩:=xa jJ;refine bg.still cO i o d v (HF dK ai) (by simpa using ai) ax aU aw ?_;rw [pA,D8];exact h dK rB cO
theorem aK.step {v:ag} (aN:wJ Γ N l.toArray (b4 l env o) o=some (d,v)) (h:aK J P Γ N l (i+1) rest Q ((d,v)::env) s):aK J P Γ N l i (o::rest) Q env s:=by
 obtain ⟨U,ad,al⟩:=Dj (J:=J) (P:=P) aN;exact aK.still U ad al h
def runK (Γ:cA) (N:Nat) (ops:Array Oper):List Oper→Nat→Env→List Oper×Nat×Env
  | [],i,env=>([],i,env)
  | o::l,i,env=>match wJ Γ N ops (iH env (looks ops o)) o with
    | some (d,v)=>runK Γ N ops l (i+1) ((d,v)::env)
    | none=>(o::l,i,env)
theorem aK.run {MA:List Oper} {CP:Nat} {e0:Env} (h:runK Γ N l.toArray rest i env=(MA,CP,e0)) (aE:aK J P Γ N l CP MA Q e0 s):aK J P Γ N l i rest Q env s:=by
 induction rest generalizing i env with
 | nil=>simp only [runK,Prod.mk.injEq] at h;obtain ⟨rfl,rfl,rfl⟩:=h;exact aE
 | cons o r a1=>
  simp only [runK] at h;split at h
  ·rename_i d v aN
   exact aK.step aN (a1 h)
  ·simp only [Prod.mk.injEq] at h;obtain ⟨rfl,rfl,rfl⟩:=h;exact aE
theorem aK.pure {v:ag} (av:c6 l env o) (ax:o.dst=some d) (aU:t8 d N=true) (aw:l2 Γ o (b4 l env o) v) (h:aK J P Γ N l (i+1) rest Q ((d,v)::env) s):aK J P Γ N l i (o::rest) Q env s:=
 aK.still ax Dm (.inl ⟨av,aw⟩) h
theorem aK.iG {v:ag} (av:c6 l env o) (ax:o.dst=some d) (aU:t8 d N=true) (aw:wA Γ o (b4 l env o)=some v) (h:aK J P Γ N l (i+1) rest Q ((d,v)::env) s):aK J P Γ N l i (o::rest) Q env s:=
 aK.pure av ax aU (.x aw) h
theorem aK.calm {v:ag} (av:c6 l env o) (ax:o.dst=some d) (aU:t8 d N=true) (aw:∀ s,J s→aZ P N o (b4 l env o) s (fun x aj=>x=v∧aj=s) (fun _ _=>False)) (h:aK J P Γ N l (i+1) rest Q ((d,v)::env) s):aK J P Γ N l i (o::rest) Q env s:=
 aK.still ax Dm (.inr (.inr ⟨av,aw⟩)) h
theorem aK.idx {t e:TypeId} {x y:Operand} {it aH:bO} {sz:Nat} {xs:List ag} {own:bN} {k:IntKind} {n:Int} (j:Nat) {v:ag} {cs:List ag} (av:c6 l env o) (ax:o.dst=some d) (aU:t8 d N=true) (b3:o.op = .indexAddr t x y) (aN:Γ.get? t=some it) (bt:it.bF = .aA e) (bJ:Γ.get? e=some aH)
  (ab:aM (b4 l env o) x=some (.aA sz xs own)) (cc:sz=aH.size) (ay:aM (b4 l env o) y=some (.int k n)) (eU:n=(j:Int)) (aL:xs[j]? = some v) (aB:cellsOf v=some cs)
  (h:aK J P Γ N l (i+1) rest Q ((d,.bw cs 0)::env) s):aK J P Γ N l i (o::rest) Q env s:=
 aK.pure av ax aU (.idx j b3 aN bt bJ ab cc ay eU aL aB) h
theorem aK.slice {t e:TypeId} {x:Operand} {gF aR jA:Option Operand} {it aH:bO} {sz:Nat} {xs:List ag} {own cM:bN} (a b:Nat) (av:c6 l env o) (ax:o.dst=some d) (aU:t8 d N=true)
  (b3:o.op = .slice t x gF aR jA)
  (aN:Γ.get? t=some it) (bt:it.bF = .aA e) (bJ:Γ.get? e=some aH) (ab:aM (b4 l env o) x=some (.aA sz xs own)) (cc:xs=[]∨sz=aH.size)
  (iT:(gF=none∧a=0)∨∃ y k,gF=some y∧aM (b4 l env o) y=some (.int k (a:Int))) (rb:(aR=none∧jA=none∧b=xs.length)∨∃ y k,aR=some y∧aM (b4 l env o) y=some (.int k (b:Int)))
  (nQ:(jA=none∧cM = .bb)∨(∃ y k,jA=some y∧aM (b4 l env o) y=some (.int k (b:Int))∧cM = .clip)) (aC:a≤b) (cY:b≤xs.length)
  (h:aK J P Γ N l (i+1) rest Q ((d,.aA sz ((xs.take b).drop a) cM)::env) s):aK J P Γ N l i (o::rest) Q env s:=
 aK.pure av ax aU (.slice a b b3 aN bt bJ ab cc iT rb nQ aC cY) h
theorem aK.ec {f:FuncId} {f':Array Operand} {da:Array TypeId} {xs:List ag} {v:ag} (av:c6 l env o) (ax:o.dst=some d) (aU:t8 d N=true)
  (b3:o.op = .call { callee := .value (.func f),args:=f',argTypes:=da }) (a6:fX (b4 l env o) f'.toList=some xs) (aB:aT P f xs v) (h:aK J P Γ N l (i+1) rest Q ((d,v)::env) s):aK J P Γ N l i (o::rest) Q env s:=
 aK.calm av ax aU (fun s _=>(aZ.call b3 (fv := .func f [] []) rfl a6 (hY.fx (R:=fun o aj=>o = .ret v∧aj=s) (by simpa using aB s))).mono (fun x aj h=>by cases h.1;exact ⟨rfl,h.2⟩) (fun x aj h=>by cases h.1)) h
theorem aK.mH {g:Operand} {fv:ag} {f':Array Operand} {da:Array TypeId} {xs:List ag} {v:ag} (av:c6 l env o) (ax:o.dst=some d) (aU:t8 d N=true)
  (b3:o.op = .call { callee := .value g,args:=f',argTypes:=da }) (aw:aM (b4 l env o) g=some fv) (a6:fX (b4 l env o) f'.toList=some xs) (aB:eF P fv xs v) (h:aK J P Γ N l (i+1) rest Q ((d,v)::env) s):aK J P Γ N l i (o::rest) Q env s:=
 aK.calm av ax aU (fun s _=>(aZ.call b3 aw a6 (aB s)).mono (fun x aj h=>by cases h.1;exact ⟨rfl,h.2⟩) (fun x aj h=>by cases h.1)) h
theorem aK.ey {L R:a'} (aP:bQ P Γ) (I:Ok s L) {t T:TypeId} {x:Operand} {dP:bO} {b off:Nat} {cs:List ag} {v:ag} (av:c6 l env o) (ax:o.dst=some d) (aU:t8 d N=true)
  (b3:o.op = .load t x) (aN:Γ.get? t=some dP) (ab:aM (b4 l env o) x=some (.ptr b off)) (ar:bo L (.own b) (.box T cs) R) (aw:hV dP cs off=some v)
  (h:aK (fun aj=>aj=aS s L) P Γ N l (i+1) rest Q ((d,v)::env) (aS s L)):aK (fun aj=>aj=aS s L) P Γ N l i (o::rest) Q env (aS s L):=
 aK.calm av ax aU (fun _ e=>by subst e;exact aZ.ey aP I b3 aN ab ar aw) h
theorem aK.split (t:Nat) {b:Bool} (aw:env.get? t=some (.bool b)) (eG:b=true→aK J P Γ N l i rest Q ((t,.bool true)::env) s) (gG:b=false→aK J P Γ N l i rest Q ((t,.bool false)::env) s):aK J P Γ N l i rest Q env s:=by
 have U:∀ u,Env.get? ((t,.bool b)::env) u=env.get? u:=fun u=>by
  rw [Env.get?];split
  ·rename_i hu;rw [← ae0 hu];exact aw.symm
  ·rfl
 intro dK jJ cO;refine bg.congr _ U ?_;cases b with
 | true=>exact eG C dK jJ cO
 | false=>exact gG C dK jJ cO
theorem aK.hh {t:Nat} {b:Bool} (ar:Lq l.toArray o=some t) (aw:env.get? t=some (.bool b)) (eG:b=true→aK J P Γ N l i (o::rest) Q ((t,.bool true)::env) s) (gG:b=false→aK J P Γ N l i (o::rest) Q ((t,.bool false)::env) s):aK J P Γ N l i (o::rest) Q env s:=
 aK.split t aw eG gG
theorem aK.same (b:Bool) (av:guardOf l.toArray (b4 l env o) o=some b) (h:aK J P Γ N l i (o::rest) Q env s):aK J P Γ N l i (o::rest) Q env s:=h
theorem MB {l:List Oper} (dK:sf l.toArray=true) {i:Nat} {o:Oper} (jJ:l.drop i=[o]):∀ j,hq l.toArray (bZ (2^i-1)) j→j=i:=fun j aL=>by
 obtain ⟨ai,rB⟩:=xa jJ;have ad:l.length≤i+1:=by simpa using rB
 have al:j<l.length:=by simpa using aL.1
 have bf:=aL.2.1;simp [bZ,ai3] at bf;omega
theorem MC {l:List Oper} {i:Nat} {o:Oper} (jJ:l.drop i=[o]):∀ j,j<l.toArray.size→ei (bZ (2^i-1)) i j=true:=fun j aL=>by
 obtain ⟨ai,rB⟩:=xa jJ;have ad:l.length≤i+1:=by simpa using rB
 have al:j<l.length:=by simpa using aL
 rw [pA,D8];simp [bZ,ai3];omega
theorem aK.last {K X:ag→ao→Prop} (av:c6 l env o) (ax:o.dst=some d) (aU:t8 d N=true) (ma:kI l.toArray i=true) (h:aZ P N o (b4 l env o) s K X)
  (aE:∀ x aj,K x aj→Q .normal ((d,x)::env) aj) (ab:∀ x aj,X x aj→Q (.panic x) [] aj):aK J P Γ N l i [o] Q env s:=fun dK jJ _=>by
 obtain ⟨ai,rB⟩:=xa jJ;have jm:=HF dK ai;have fy:=MB dK jJ;refine bg.split (fun _=>K) (fun _=>X) ⟨i,jm.1,jm.2.1⟩ (fun j o' aL cD=>?_) (fun j o' wK cD x aj bk=>by have:=fy j wK;subst this;exact .inr (Dl ma)) (fun j o' c9 aL cD cp x aj bk=>?_) (fun j o' aL cD cp x aj bk=>?_) (fun j o' aL cD x aj hg=>ab x aj hg)
 ·have:=fy j aL;subst this
  have cD:l[j]? = some o':=by simpa using cD
  rw [ai] at cD;cases cD;exact ⟨av,h,fun c9 cp=>by rw [ax] at cp;cases cp;simpa [Nat.blt_eq] using aU⟩
 ·have:=fy j aL;subst this
  have cD:l[j]? = some o':=by simpa using cD
  rw [ai] at cD;cases cD;rw [ax] at cp;cases cp;exact bg.fin (MC jJ) (aE x aj bk)
 ·have:=fy j aL;subst this
  have cD:l[j]? = some o':=by simpa using cD
  rw [ai] at cD;cases cD;rw [ax] at cp;cases cp
theorem aK.HG {K X:ag→ao→Prop} (av:c6 l env o) (ax:o.dst=none) (ma:kI l.toArray i=true) (h:aZ P N o (b4 l env o) s K X)
  (aE:∀ x aj,K x aj→Q .normal env aj) (ab:∀ x aj,X x aj→Q (.panic x) [] aj):aK J P Γ N l i [o] Q env s:=fun dK jJ _=>by
 obtain ⟨ai,rB⟩:=xa jJ;have jm:=HF dK ai;have fy:=MB dK jJ;refine bg.split (fun _=>K) (fun _=>X) ⟨i,jm.1,jm.2.1⟩ (fun j o' aL cD=>?_) (fun j o' wK cD x aj bk=>by have:=fy j wK;subst this;exact .inr (Dl ma)) (fun j o' c9 aL cD cp x aj bk=>?_) (fun j o' aL cD cp x aj bk=>?_) (fun j o' aL cD x aj hg=>ab x aj hg)
 ·have:=fy j aL;subst this
  have cD:l[j]? = some o':=by simpa using cD
  rw [ai] at cD;cases cD;exact ⟨av,h,fun c9 cp=>by rw [ax] at cp;cases cp⟩
 ·have:=fy j aL;subst this
  have cD:l[j]? = some o':=by simpa using cD
  rw [ai] at cD;cases cD;rw [ax] at cp;cases cp
 ·have:=fy j aL;subst this
  have cD:l[j]? = some o':=by simpa using cD
  rw [ai] at cD;cases cD;exact bg.fin (MC jJ) (aE x aj bk)
theorem aK.cK {L R:a'} (aP:bQ P Γ) (I:Ok s L) {t T:TypeId} {x y:Operand} {dP:bO} {b off:Nat} {cs us:List ag} {v:ag} (av:c6 l env o) (ax:o.dst=none) (ma:kI l.toArray i=true)
  (b3:o.op = .store t x y) (aN:Γ.get? t=some dP) (ab:aM (b4 l env o) x=some (.ptr b off)) (ay:aM (b4 l env o) y=some v)
  (aw:cellsOf v=some us) (hu:af0 us.length dP.size=true) (U:us.all fe=true) (ar:bo L (.own b) (.box T cs) R) (fr:Nat.ble (off+us.length) cs.length=true)
  (h:Ok s ((.own b,.box T (eM off us cs))::R)→Q .normal env (aS s ((.own b,.box T (eM off us cs))::R))):aK J P Γ N l i [o] Q env (aS s L):=
 aK.HG av ax ma (aZ.cK aP I b3 aN ab ay aw hu U ar fr (X:=fun _ _=>False)) (fun x aj ⟨U,ad⟩=>by subst U;exact h ad) (fun _ _ h=>h.elim)
theorem aK.bX {L R K:a'} {aef:eC→a'→Prop} {f:FuncId} {f':Array Operand} {da:Array TypeId} {xs:List ag} (av:c6 l env o) (ax:o.dst=some d) (aU:t8 d N=true) (ma:kI l.toArray i=true)
  (b3:o.op = .call { callee := .value (.func f),args:=f',argTypes:=da }) (a6:fX (b4 l env o) f'.toList=some xs) (h:bA P f xs K aef) (I:Ok s L) (ar:aG L K R)
  (aE:∀ x aO,aef (.ret x) aO→Ok s (aO++R)→Q .normal ((d,x)::env) (aS s (aO++R))) (ab:∀ x aO,aef (.panic x) aO→Ok s (aO++R)→Q (.panic x) [] (aS s (aO++R))):aK J P Γ N l i [o] Q env (aS s L):=
 aK.last av ax aU ma (aZ.bX b3 a6 h I ar) (fun x aj ⟨aO,U,ad,al⟩=>by subst U;exact aE x aO al ad) (fun x aj ⟨aO,U,ad,al⟩=>by subst U;exact ab x aO al ad)
theorem aK.xb {K X:ag→ao→Prop} (av:c6 l env o) (ax:o.dst=some d) (aU:t8 d N=true) (aD:eJ l.toArray (2^i-1) (idxs 0 l)=[i]) (h:aZ P N o (b4 l env o) s K X) (aL:∀ x aj,K x aj→J aj)
  (aE:∀ x aj,K x aj→aK J P Γ N l (i+1) rest Q ((d,x)::env) aj) (ab:∀ x aj,X x aj→Q (.panic x) [] aj):aK J P Γ N l i (o::rest) Q env s:=fun dK jJ _=>by
 obtain ⟨ai,rB⟩:=xa jJ;refine bg.one aD (by simpa using ai) ax aU av h (fun x aj bk => .inl (aL x aj bk)) (fun x aj bk=>?_) ab;rw [D8];exact aE x aj bk dK rB (aL x aj bk)
theorem aK.MD {K X:ag→ao→Prop} (av:c6 l env o) (ax:o.dst=none) (aD:eJ l.toArray (2^i-1) (idxs 0 l)=[i]) (h:aZ P N o (b4 l env o) s K X) (aL:∀ x aj,K x aj→J aj)
  (aE:∀ x aj,K x aj→aK J P Γ N l (i+1) rest Q env aj) (ab:∀ x aj,X x aj→Q (.panic x) [] aj):aK J P Γ N l i (o::rest) Q env s:=fun dK jJ _=>by
 obtain ⟨ai,rB⟩:=xa jJ;refine bg.yF aD (by simpa using ai) ax av h (fun x aj bk => .inl (aL x aj bk)) (fun x aj bk=>?_) ab;rw [D8];exact aE x aj bk dK rB (aL x aj bk)
theorem aK.HH {L:a'} (aP:bQ P Γ) (I:Ok s L) {t:TypeId} {dP:bO} {z:ag} {cs:List ag} (av:c6 l env o) (ax:o.dst=some d) (aU:t8 d N=true) (aD:eJ l.toArray (2^i-1) (idxs 0 l)=[i])
  (b3:o.op = .alloc t) (aN:Γ.get? t=some dP) (bG:hH dP.zero=some z) (aB:cellsOf z=some cs)
  (h:∀ b,Ok s ((.own b,.box t cs)::L)→aK kH P Γ N l (i+1) rest Q ((d,.ptr b 0)::env) (aS s ((.own b,.box t cs)::L))):aK kH P Γ N l i (o::rest) Q env (aS s L):=
 aK.xb av ax aU aD (aZ.eb aP I b3 aN bG aB (X:=fun _ _=>False)) (fun _ _ _=>trivial) (fun x aj ⟨b,U,ad,al⟩=>by subst U;subst ad;exact h b al) (fun _ _ h=>h.elim)
theorem aK.storeT {L R:a'} (aP:bQ P Γ) (I:Ok s L) {t T:TypeId} {x y:Operand} {dP:bO} {b off:Nat} {cs us:List ag} {v:ag} (av:c6 l env o) (ax:o.dst=none) (aD:eJ l.toArray (2^i-1) (idxs 0 l)=[i])
  (b3:o.op = .store t x y) (aN:Γ.get? t=some dP) (ab:aM (b4 l env o) x=some (.ptr b off)) (ay:aM (b4 l env o) y=some v)
  (aw:cellsOf v=some us) (hu:af0 us.length dP.size=true) (U:us.all fe=true) (ar:bo L (.own b) (.box T cs) R) (fr:Nat.ble (off+us.length) cs.length=true)
  (h:Ok s ((.own b,.box T (eM off us cs))::R)→aK kH P Γ N l (i+1) rest Q env (aS s ((.own b,.box T (eM off us cs))::R))):aK kH P Γ N l i (o::rest) Q env (aS s L):=
 aK.MD av ax aD (aZ.cK aP I b3 aN ab ay aw hu U ar fr (X:=fun _ _=>False)) (fun _ _ _=>trivial) (fun x aj ⟨U,ad⟩=>by subst U;exact h ad) (fun _ _ h=>h.elim)
theorem aK.loadT {L R:a'} (aP:bQ P Γ) (I:Ok s L) {t T:TypeId} {x:Operand} {dP:bO} {b off:Nat} {cs:List ag} {v:ag} (av:c6 l env o) (ax:o.dst=some d) (aU:t8 d N=true) (aD:eJ l.toArray (2^i-1) (idxs 0 l)=[i])
  (b3:o.op = .load t x) (aN:Γ.get? t=some dP) (ab:aM (b4 l env o) x=some (.ptr b off)) (ar:bo L (.own b) (.box T cs) R) (aw:hV dP cs off=some v)
  (h:aK kH P Γ N l (i+1) rest Q ((d,v)::env) (aS s L)):aK kH P Γ N l i (o::rest) Q env (aS s L):=
 aK.xb av ax aU aD (aZ.ey aP I b3 aN ab ar aw (X:=fun _ _=>False)) (fun _ _ _=>trivial) (fun x aj ⟨U,ad⟩=>by subst U;subst ad;exact h) (fun _ _ h=>h.elim)
theorem aK.kS {L R K:a'} {aef:eC→a'→Prop} {f:FuncId} {f':Array Operand} {da:Array TypeId} {xs:List ag} (av:c6 l env o) (ax:o.dst=some d) (aU:t8 d N=true) (aD:eJ l.toArray (2^i-1) (idxs 0 l)=[i])
  (b3:o.op = .call { callee := .value (.func f),args:=f',argTypes:=da }) (a6:fX (b4 l env o) f'.toList=some xs) (h:bA P f xs K aef) (I:Ok s L) (ar:aG L K R)
  (aE:∀ x aO,aef (.ret x) aO→Ok s (aO++R)→aK kH P Γ N l (i+1) rest Q ((d,x)::env) (aS s (aO++R))) (ab:∀ x aO,aef (.panic x) aO→Ok s (aO++R)→Q (.panic x) [] (aS s (aO++R))):aK kH P Γ N l i (o::rest) Q env (aS s L):=
 aK.xb av ax aU aD (aZ.bX b3 a6 h I ar) (fun _ _ _=>trivial) (fun x aj ⟨aO,U,ad,al⟩=>by subst U;exact aE x aO al ad) (fun x aj ⟨aO,U,ad,al⟩=>by subst U;exact ab x aO al ad)
end
def yX (i:bO):Bool:=match i.bF with
 | .struct _=>false
 | .arr _ _=>false
 | .other=>false
 | _=>true
theorem Vg {cs:List ag} {off:Nat} {v:ag} (h:cs[off]? = some v):q3 off cs=some (v::cs.drop (off+1)):=by
 induction off generalizing cs with
 | zero=>
  cases cs with
  | nil=>cases h
  | cons x r=>simp at h;subst h;rfl
 | succ n a1=>
  cases cs with
  | nil=>cases h
  | cons x r=>
   have:=a1 (cs:=r) e2;simp only [q3,List.drop_succ_cons];exact this
theorem nu {i:bO} {cs:List ag} {off:Nat} {v:ag} (U:yX i=true) (h:cs[off]? = some v):hV i cs off=some v:=by
 unfold hV yX at *;rw [Vg h];simp only;split at U<;>simp_all
section
variable {J:ao→Prop} {P:Program} {Γ:cA} {N:Nat} {ops:Array Oper} {l:List Oper} {i:Nat} {rest:List Oper} {Q:b9→Env→ao→Prop} {env:Env} {s:ao} {o:Oper} {d:Nat}
theorem aZ.ME (aP:bQ P Γ) {t:TypeId} {x:Operand} {dP:bO} {off:Nat} {cs:List ag} {v:ag} (b3:o.op = .load t x) (aN:Γ.get? t=some dP) (ab:aM env x=some (.bw cs off)) (aw:hV dP cs off=some v) :
  aZ P N o env s (fun x aj=>x=v∧aj=s) (fun _ _=>False):=
 aZ.m0 (by simp [gJ,b3]) fun ro B a w p aI=>KG aP aI b3 aN ab aw
theorem aa.Ba (aP:bQ P Γ) {t:TypeId} {x:Operand} {dP:bO} {off:Nat} {cs:List ag} {v:ag} (av:guardOf ops env o=some true) (ax:o.dst=some d) (aU:t8 d N=true) (b3:o.op = .load t x) (aN:Γ.get? t=some dP) (ab:aM env x=some (.bw cs off)) (U:yX dP=true) (aw:cs[off]? = some v)
  (h:aa P N ops rest Q ((d,v)::env) s):aa P N ops (o::rest) Q env s:=
 aa.op av ax aU (aZ.ME aP b3 aN ab (nu U aw)) (fun x aj ⟨U,ad⟩=>by subst U;subst ad;exact h) (fun _ _ h=>h.elim)
theorem aK.Ba (aP:bQ P Γ) {t:TypeId} {x:Operand} {dP:bO} {off:Nat} {cs:List ag} {v:ag} (av:c6 l env o) (ax:o.dst=some d) (aU:t8 d N=true) (b3:o.op = .load t x) (aN:Γ.get? t=some dP) (ab:aM (b4 l env o) x=some (.bw cs off)) (U:yX dP=true) (aw:cs[off]? = some v)
  (h:aK J P Γ N l (i+1) rest Q ((d,v)::env) s):aK J P Γ N l i (o::rest) Q env s:=
 aK.calm av ax aU (fun s _=>aZ.ME aP b3 aN ab (nu U aw)) h
theorem aa.jd {L R:a'} (aP:bQ P Γ) (I:Ok s L) {t T:TypeId} {x:Operand} {dP:bO} {b off:Nat} {cs:List ag} {v:ag} (av:guardOf ops env o=some true) (ax:o.dst=some d) (aU:t8 d N=true) (b3:o.op = .load t x) (aN:Γ.get? t=some dP) (ab:aM env x=some (.ptr b off)) (ar:bo L (.own b) (.box T cs) R) (U:yX dP=true) (aw:cs[off]? = some v)
  (h:aa P N ops rest Q ((d,v)::env) (aS s L)):aa P N ops (o::rest) Q env (aS s L):=
 aa.ey aP I av ax aU b3 aN ab ar (nu U aw) h
theorem aK.jd {L R:a'} (aP:bQ P Γ) (I:Ok s L) {t T:TypeId} {x:Operand} {dP:bO} {b off:Nat} {cs:List ag} {v:ag} (av:c6 l env o) (ax:o.dst=some d) (aU:t8 d N=true) (b3:o.op = .load t x) (aN:Γ.get? t=some dP) (ab:aM (b4 l env o) x=some (.ptr b off)) (ar:bo L (.own b) (.box T cs) R) (U:yX dP=true) (aw:cs[off]? = some v)
  (h:aK (fun aj=>aj=aS s L) P Γ N l (i+1) rest Q ((d,v)::env) (aS s L)):aK (fun aj=>aj=aS s L) P Γ N l i (o::rest) Q env (aS s L):=
 aK.ey aP I av ax aU b3 aN ab ar (nu U aw) h
theorem aK.l9 (aP:bQ P Γ) {t e:TypeId} {x y:Operand} {it aH:bO} {k:IntKind} {len off:Nat} {cs:List ag} {z:Int} (j:Nat) (av:c6 l env o) (ax:o.dst=some d) (aU:t8 d N=true) (ai:o.op = .indexAddr t x y) (aN:Γ.get? t=some it) (bt:it.bF = .arr len e) (bJ:Γ.get? e=some aH) (ab:aM (b4 l env o) x=some (.bw cs off)) (ay:aM (b4 l env o) y=some (.int k z)) (eU:z=(j:Int)) (aL:j<len)
  (h:aK J P Γ N l (i+1) rest Q ((d,.bw cs (off+j*aH.size))::env) s):aK J P Γ N l i (o::rest) Q env s:=
 aK.calm av ax aU (fun s _=>aZ.l9 aP ai aN bt bJ ab ay eU aL) h
theorem aK.arr (aP:bQ P Γ) {t e:TypeId} {x y:Operand} {it aH:bO} {k:IntKind} {len b off:Nat} {z:Int} (j:Nat) (av:c6 l env o) (ax:o.dst=some d) (aU:t8 d N=true) (ai:o.op = .indexAddr t x y) (aN:Γ.get? t=some it) (bt:it.bF = .arr len e) (bJ:Γ.get? e=some aH) (ab:aM (b4 l env o) x=some (.ptr b off)) (ay:aM (b4 l env o) y=some (.int k z)) (eU:z=(j:Int)) (aL:j<len)
  (h:aK J P Γ N l (i+1) rest Q ((d,.ptr b (off+j*aH.size))::env) s):aK J P Γ N l i (o::rest) Q env s:=
 aK.calm av ax aU (fun s _=>aZ.arr aP ai aN bt bJ ab ay eU aL) h
theorem aK.hQ {L R:a'} (aP:bQ P Γ) (I:Ok s L) {t T:TypeId} {x y:Operand} {dP:bO} {b off:Nat} {cs us:List ag} {v:ag} (cs':List ag) (av:c6 l env o) (ax:o.dst=none) (ma:kI l.toArray i=true)
  (b3:o.op = .store t x y) (aN:Γ.get? t=some dP) (ab:aM (b4 l env o) x=some (.ptr b off)) (ay:aM (b4 l env o) y=some v)
  (aw:cellsOf v=some us) (hu:af0 us.length dP.size=true) (U:us.all fe=true) (ar:bo L (.own b) (.box T cs) R) (fr:off+us.length≤cs.length) (he:eM off us cs=cs')
  (h:Ok s ((.own b,.box T cs')::R)→Q .normal env (aS s ((.own b,.box T cs')::R))):aK J P Γ N l i [o] Q env (aS s L):=by
 subst he;exact aK.cK aP I av ax ma b3 aN ab ay aw hu U ar (by simpa [Nat.ble_eq] using fr) h
theorem aa.hQ {L R:a'} (aP:bQ P Γ) (I:Ok s L) {t T:TypeId} {x y:Operand} {dP:bO} {b off:Nat} {cs us:List ag} {v:ag} (cs':List ag) (av:guardOf ops env o=some true) (ax:o.dst=none)
  (b3:o.op = .store t x y) (aN:Γ.get? t=some dP) (ab:aM env x=some (.ptr b off)) (ay:aM env y=some v)
  (aw:cellsOf v=some us) (hu:af0 us.length dP.size=true) (U:us.all fe=true) (ar:bo L (.own b) (.box T cs) R) (fr:off+us.length≤cs.length) (he:eM off us cs=cs')
  (h:Ok s ((.own b,.box T cs')::R)→aa P N ops rest Q env (aS s ((.own b,.box T cs')::R))):aa P N ops (o::rest) Q env (aS s L):=by
 subst he;exact aa.cK aP I av ax b3 aN ab ay aw hu U ar (by simpa [Nat.ble_eq] using fr) h
theorem mQ {off:Nat} {v:ag}:∀ {cs:List ag},eM off [v] cs=cs.set off v:=by
  induction off with
  | zero=>intro cs;cases cs<;>rfl
  | succ n a1=>intro cs;cases cs with
    | nil=>rfl
    | cons x r=>exact ae7 (x :: ·) (a1 (cs:=r))
theorem aa.l7 {f:FuncId} {f':Array Operand} {da:Array TypeId} {xs ys:List ag} {v:ag} (av:guardOf ops env o=some true) (ax:o.dst=some d) (aU:t8 d N=true)
  (b3:o.op = .call { callee := .value (.func f),args:=f',argTypes:=da }) (a6:fX env f'.toList=some xs) (h:aT P f ys v) (aC:cU xs ys) (aE:aa P N ops rest Q ((d,v)::env) s):aa P N ops (o::rest) Q env s:=
 aa.ec av ax aU b3 a6 (aT.args aC h) aE
theorem aK.l7 {f:FuncId} {f':Array Operand} {da:Array TypeId} {xs ys:List ag} {v:ag} (av:c6 l env o) (ax:o.dst=some d) (aU:t8 d N=true)
  (b3:o.op = .call { callee := .value (.func f),args:=f',argTypes:=da }) (a6:fX (b4 l env o) f'.toList=some xs) (aB:aT P f ys v) (aC:cU xs ys) (h:aK J P Γ N l (i+1) rest Q ((d,v)::env) s):aK J P Γ N l i (o::rest) Q env s:=
 aK.ec av ax aU b3 a6 (aT.args aC aB) h
theorem ae.sw {L R:a'} (I:Ok s L) (b:Nat) {db:dH} (ar:bo L (.own b) db R) (aP:bQ P Γ) (hm:P.follows .mixedOrders=true) {id:Nat} (dK:sf l.toArray=true) (h:aK (fun aj=>aj b=some db) P Γ N l 0 l Q env (aS s L)):ae P N (.region id l.toArray true) Q env (aS s L):=
 ae.nf _ aP hm dK (h dK C (ar.get I))
theorem aK.oF (aP:bQ P Γ) {t T:TypeId} {x:Operand} {dP:bO} {b off:Nat} {cs:List ag} {v:ag} (av:c6 l env o) (ax:o.dst=some d) (aU:t8 d N=true)
  (b3:o.op = .load t x) (aN:Γ.get? t=some dP) (ab:aM (b4 l env o) x=some (.ptr b off)) (aw:hV dP cs off=some v)
  (h:aK (fun aj=>aj b=some (.box T cs)) P Γ N l (i+1) rest Q ((d,v)::env) s):aK (fun aj=>aj b=some (.box T cs)) P Γ N l i (o::rest) Q env s:=
 aK.calm av ax aU (fun s cO=>aZ.uL aP b3 aN ab cO aw) h
theorem aK.Bb {L R K:a'} {aef:eC→a'→Prop} {b:Nat} {db:dH} {g:Operand} {fv:ag} {f':Array Operand} {da:Array TypeId} {xs:List ag} (av:c6 l env o) (ax:o.dst=some d) (aU:t8 d N=true) (aD:eJ l.toArray (2^i-1) (idxs 0 l)=[i])
  (b3:o.op = .call { callee := .value g,args:=f',argTypes:=da }) (aw:aM (b4 l env o) g=some fv) (a6:fX (b4 l env o) f'.toList=some xs) (h:dA P fv xs K aef) (I:Ok s L) (ar:aG L K R)
  (aL:∀ x aO,aef (.ret x) aO→∃ dw,bo (aO++R) (.own b) db dw)
  (aE:∀ x aO,aef (.ret x) aO→Ok s (aO++R)→aK (fun aj=>aj b=some db) P Γ N l (i+1) rest Q ((d,x)::env) (aS s (aO++R))) (ab:∀ x aO,aef (.panic x) aO→Ok s (aO++R)→Q (.panic x) [] (aS s (aO++R))):aK (fun aj=>aj b=some db) P Γ N l i (o::rest) Q env (aS s L):=
 aK.xb av ax aU aD (aZ.gM b3 aw a6 h I ar) (fun x aj ⟨aO,U,ad,al⟩=>by subst U;obtain ⟨dw,hL⟩:=aL x aO al;exact hL.get ad) (fun x aj ⟨aO,U,ad,al⟩=>by subst U;exact aE x aO al ad) (fun x aj ⟨aO,U,ad,al⟩=>by subst U;exact ab x aO al ad)
theorem aK.Vh {L R K:a'} {aef:eC→a'→Prop} {g:Operand} {fv:ag} {f':Array Operand} {da:Array TypeId} {xs:List ag} (av:c6 l env o) (ax:o.dst=some d) (aU:t8 d N=true) (aD:eJ l.toArray (2^i-1) (idxs 0 l)=[i])
  (b3:o.op = .call { callee := .value g,args:=f',argTypes:=da }) (aw:aM (b4 l env o) g=some fv) (a6:fX (b4 l env o) f'.toList=some xs) (h:dA P fv xs K aef) (I:Ok s L) (ar:aG L K R)
  (aE:∀ x aO,aef (.ret x) aO→Ok s (aO++R)→aK kH P Γ N l (i+1) rest Q ((d,x)::env) (aS s (aO++R))) (ab:∀ x aO,aef (.panic x) aO→Ok s (aO++R)→Q (.panic x) [] (aS s (aO++R))):aK kH P Γ N l i (o::rest) Q env (aS s L):=
 aK.xb av ax aU aD (aZ.gM b3 aw a6 h I ar) (fun _ _ _=>trivial) (fun x aj ⟨aO,U,ad,al⟩=>by subst U;exact aE x aO al ad) (fun x aj ⟨aO,U,ad,al⟩=>by subst U;exact ab x aO al ad)
end
theorem Vi {w:World} {p:bV} {s:ao} (cf:dx w p s) {vs:List Value} {xs:List ag} {sz cap:Nat} {e:TypeId} {cur:Array Value} (aD:bH w p vs xs)
    (ar:∀ v∈vs,v.cells.size=sz) (pt:cur.size=cap*sz) (wv:cur.toList.take (xs.length*sz)=flat vs) (kE:xs.length≤cap) (hm:xs.length≤9223372036854775807) :
    ∃ bj,s w.heap.size=none∧dg w p (w.alloc (.cells cur e)) bj∧Kept s (s.set w.heap.size (.row e sz xs.length)) w p (w.alloc (.cells cur e)) bj ∧
      dx (w.alloc (.cells cur e)) bj (s.set w.heap.size (.row e sz xs.length))∧Rel (w.alloc (.cells cur e)) bj (.slice (some ⟨w.heap.size,0,none⟩) xs.length cap) (.aA sz xs (.own w.heap.size)):=by
  have az:s w.heap.size=none:=by
    cases h:s w.heap.size with
    | none=>rfl
    | some o'=>exact absurd (cf.obj _ _ h).lt af
  let bj:bV:=fun b o=>p b o∨(b=w.heap.size∧o<xs.length*sz)
  have pv:(w.alloc (.cells cur e)).heap[w.heap.size]? = some (.cells cur e):=uE w _;have hold:∀ b,b<w.heap.size→(w.alloc (.cells cur e)).heap[b]? = w.heap[b]? := fun b an=>mw w _ b an
  have hle:dg w p (w.alloc (.cells cur e)) bj:=dg.of_heap C C C ba (fun _ _ h => .inl h) cf.lt hold;have hlen:=wu ar;have hmul:xs.length*sz≤cap*sz:=am9 _ kE;refine ⟨bj,az,hle,⟨fun b an _=>hold b an,fun b an ar=>by rw [ao.fG _ _ af];exact ar,fun b o an _ aF=>by rcases aF with aF|⟨rfl,_⟩;exact aF;omega⟩,?_,?_⟩
  · have av:dx (w.alloc (.cells cur e)) bj s:=cf.grow hle hold (fun b o an aF=>by rcases aF with aF|⟨rfl,_⟩;exact aF;omega) (fun b o aF=>by
      rcases aF with aF|⟨rfl,_⟩
      · have:=cf.lt b o aF;simp;omega
      · simp)
    refine ⟨fun b o an=>?_,av.lt⟩;by_cases e':b=w.heap.size
    · subst e'
      rw [ao.gn] at an;cases an;refine ⟨cur,pv,by omega,⟨cap,pt⟩,fun o=>⟨fun aF=>?_,fun ai => .inr ⟨rfl,ai⟩⟩⟩;rcases aF with aF|⟨_,ai⟩
      · exact absurd (cf.lt _ _ aF) af
      · exact ai
    · rw [ao.fG _ _ e'] at an;exact av.obj b o an
  · refine .aA _ 0 _ _ _ vs _ _ ba rfl ?_ (aD.mono hle) ar hm kE (fun h=>by cases h) (fun b an=>?_)
    · intro i v aw
      have aR:i<xs.length*sz:=by
        have:=(ae2.1 aw).1;rw [hlen,aD.length] at this;exact this
      refine ⟨.inr ⟨rfl,by omega⟩,?_⟩;rw [af5,jO pv];rw [← wv,ai4,g6 aR] at aw;simpa using aw
    · cases an
      exact ⟨rfl,rfl,e,by simp only [World.k1,pv,pt]⟩
theorem MF {z:Value} (h:z.cells = #[z]) (n:Nat):(madeCells z.cells n).toList=t6 n z:=by
 refine List.ext_getElem? fun i=>?_
 unfold madeCells;rw [h];simp only [Array.toList_map,Array.toList_range,ae4,ar6];by_cases aR:i<n
 ·rw [List.getElem?_range aR,g6 aR]
  simp [Nat.mod_one]
 ·rw [List.getElem?_eq_none cV,f0 aR];rfl
section
variable {P:Program} {Γ:cA} {N:Nat} {ops:Array Oper} {Q:b9→Env→ao→Prop} {env:Env} {s:ao} {l:List Oper} {o:Oper} {d:Nat} {L R:a'}
theorem MG (aP:bQ P Γ) {t e:TypeId} {it aH:bO} (aN:Γ.get? t=some it) (bt:it.bF = .aA e) (bJ:Γ.get? e=some aH) (nR qu:IntKind) (n c:Nat) (tR:n≤c) (an:c*aH.bytes≤140737488355328) (ek:c≤9223372036854775807) (w:World) :
  (Instr.makeSlice t (.int nR (n:Int)) (.int qu (c:Int))).run P w = .ok (.slice (some ⟨w.heap.size,0,none⟩) n c) (w.alloc (.cells (madeCells aH.zero.cells (c*aH.size)) e)):=by
 obtain ⟨info,d,g1,g2,g3,-⟩:=aP.parts aN;obtain ⟨j1,kC,cE,dq,fl,eK,j2,jz⟩:=aP.parts bJ;have ax:d = .slice e:=by rw [bt] at g3;cases d<;>simp [eB] at g3;rw [g3]
 subst ax;have dO:(j1.bytes:Int)*(c:Int)≤281474976710656:=by
  rw [j2];have:((aH.bytes*c:Nat):Int)≤281474976710656:=by rw [Nat.mul_comm];omega
  rwa [Int.natCast_mul] at this
 have:=run_make (P:=P) w t e j1 aH.zero g2 cE jz nR qu (n:Int) (c:Int) af af dO af;rw [ae1,ae1,eK] at this;exact this
theorem aZ.rC (aP:bQ P Γ) (I:Ok s L) {t e:TypeId} {x y:Operand} {it aH:bO} {nR qu:IntKind} {z:ag} (n:Nat) (ai:o.op = .makeSlice t x y) (aN:Γ.get? t=some it) (bt:it.bF = .aA e) (bJ:Γ.get? e=some aH) (U:aH.size=1)
  (u6:aH.zero.oneCell'=true) (bG:hH aH.zero=some z) (ab:aM env x=some (.int nR (n:Int))) (ay:aM env y=some (.int qu (n:Int))) (an:n*aH.bytes≤140737488355328) (ek:n≤9223372036854775807) {X:ag→ao→Prop} :
  aZ P N o env (aS s L) (fun r aj=>∃ b,r=ee b n n∧aj=aS s ((.own b,.box e (t6 n z))::L)∧Ok s ((.own b,.box e (t6 n z))::L)) X:=by
 refine aZ.kB iW fun ro B a w p aI=>?_
 have gp:=aI.aM ab;have fs:=aI.aM ay;generalize ep:a.eval x=dR at gp;generalize e9:a.eval y=fW at fs;cases gp;cases fs;have cS:=MG aP aN bt bJ nR qu n n (g8 _) an ek w;have uJ:=AO u6;have Bc:=MF uJ (n*aH.size);rw [U,ag'] at cS Bc
 obtain ⟨ar,hle,aE,k7⟩:=r9 aI.wf (.cells (madeCells aH.zero.cells n) e (0,0)) (.box e (t6 n z)) (fun w' iS aw fC=>⟨_,iS,by
  rw [Bc];exact bH.replicate (q4 bG) n,fun o aF=>absurd (aI.wf.lt _ _ aF) af⟩)
 refine ⟨.slice (some ⟨w.heap.size,0,none⟩) n n,_,_,p,_,?_,hle,aE,k7,⟨w.heap.size,rfl,rfl,ar,I⟩,.hG _⟩;unfold execOp;rw [ai];simp only [ep,e9];exact gV cS
theorem aa.rC (aP:bQ P Γ) (I:Ok s L) {t e:TypeId} {x y:Operand} {it aH:bO} {nR qu:IntKind} {z:ag} (n:Nat) (av:guardOf ops env o=some true) (ax:o.dst=some d) (aU:t8 d N=true) (ai:o.op = .makeSlice t x y) (aN:Γ.get? t=some it) (bt:it.bF = .aA e) (bJ:Γ.get? e=some aH) (U:aH.size=1)
  (u6:aH.zero.oneCell'=true) (bG:hH aH.zero=some z) (ab:aM env x=some (.int nR (n:Int))) (ay:aM env y=some (.int qu (n:Int))) (an:n*aH.bytes≤140737488355328) (ek:n≤9223372036854775807)
  (h:∀ b,Ok s ((.own b,.box e (t6 n z))::L)→aa P N ops l Q ((d,ee b n n)::env) (aS s ((.own b,.box e (t6 n z))::L))):aa P N ops (o::l) Q env (aS s L):=by
 refine aa.op av ax aU (aZ.rC aP I n ai aN bt bJ U u6 bG ab ay an ek (X:=fun _ _=>False)) ?_ (fun _ _ h=>h.elim);rintro r aj ⟨b,rfl,rfl,ad⟩;exact h b ad
theorem aZ.HI (aP:bQ P Γ) (I:Ok s L) {t e:TypeId} {x y:Operand} {it aH:bO} {nR qu:IntKind} {z:ag} (n c:Nat) (ai:o.op = .makeSlice t x y) (aN:Γ.get? t=some it) (bt:it.bF = .aA e) (bJ:Γ.get? e=some aH) (U:aH.size=1)
  (u6:aH.zero.oneCell'=true) (bG:hH aH.zero=some z) (ab:aM env x=some (.int nR (n:Int))) (ay:aM env y=some (.int qu (c:Int))) (tR:n≤c) (an:c*aH.bytes≤140737488355328) (ek:c≤9223372036854775807) {X:ag→ao→Prop} :
  aZ P N o env (aS s L) (fun r aj=>∃ b,r = .aA 1 (t6 n z) (.own b)∧aj=aS s ((.own b,.row e 1 n)::L)∧Ok s ((.own b,.row e 1 n)::L)) X:=by
 refine aZ.kB iW fun ro B a w p aI=>?_
 have gp:=aI.aM ab;have fs:=aI.aM ay;generalize ep:a.eval x=dR at gp;generalize e9:a.eval y=fW at fs;cases gp;cases fs;have cS:=MG aP aN bt bJ nR qu n c tR an ek w;have uJ:=AO u6;have Bc:=MF uJ (c*aH.size);rw [U,ag'] at cS Bc
 obtain ⟨bj,ea,dj,dQ,m5,tr⟩:=Vi (e:=e) (sz:=1) (cap:=c) (cur:=madeCells aH.zero.cells c) aI.wf (bH.replicate (q4 (w:=w) (p:=p) bG) n) (fun v aw=>by
  obtain ⟨_,rfl⟩:=as1.1 aw
  rw [uJ];rfl) (by rw [size_madeCells,ag']) (by
  rw [Bc,af3,ag',List.take_replicate,tD (fun v aw=>by obtain ⟨_,rfl⟩:=as1.1 aw;exact u6),am8 tR]) (by rw [af3];exact tR) uZ
 rw [af3] at dQ m5 tr;refine ⟨.slice (some ⟨w.heap.size,0,none⟩) n c,_,_,bj,_,?_,dj,dQ,m5,⟨w.heap.size,rfl,rfl,ea,I⟩,tr⟩;unfold execOp;rw [ai];simp only [ep,e9];exact gV cS
theorem aa.HI (aP:bQ P Γ) (I:Ok s L) {t e:TypeId} {x y:Operand} {it aH:bO} {nR qu:IntKind} {z:ag} (n c:Nat) (av:guardOf ops env o=some true) (ax:o.dst=some d) (aU:t8 d N=true) (ai:o.op = .makeSlice t x y) (aN:Γ.get? t=some it) (bt:it.bF = .aA e) (bJ:Γ.get? e=some aH) (U:aH.size=1)
  (u6:aH.zero.oneCell'=true) (bG:hH aH.zero=some z) (ab:aM env x=some (.int nR (n:Int))) (ay:aM env y=some (.int qu (c:Int))) (tR:n≤c) (an:c*aH.bytes≤140737488355328) (ek:c≤9223372036854775807)
  (h:∀ b,Ok s ((.own b,.row e 1 n)::L)→aa P N ops l Q ((d,.aA 1 (t6 n z) (.own b))::env) (aS s ((.own b,.row e 1 n)::L))):aa P N ops (o::l) Q env (aS s L):=by
 refine aa.op av ax aU (aZ.HI aP I n c ai aN bt bJ U u6 bG ab ay tR an ek (X:=fun _ _=>False)) ?_ (fun _ _ h=>h.elim);rintro r aj ⟨b,rfl,rfl,ad⟩;exact h b ad
end
def MH (P:Program) {α:Type} (dE a2:α→ag) (oK:α→Prop) (l:Nat) (Go:List α→a'→Prop) (fJ:a'→Prop) (fQ:ag→a'→Prop):Prop:=
 ∀ x rem K,Go (x::rem) K→dA P (l3 l) [dE x,a2 x] K (fun o aO=>(o = .ret (.bool true)∧oK x∧Go rem aO)∨(o = .ret (.bool false)∧fJ aO)∨∃ v,o = .panic v∧fQ v aO)
def HJ (P:Program) (f:FuncId) (first cap:List ag) (nn:a') {α:Type} (dE a2:α→ag) (oK:α→Prop) (xs:List α):Prop:=
 ∀ (l:Nat) (Go:List α→a'→Prop) (fJ:a'→Prop) (fQ:ag→a'→Prop),MH P dE a2 oK l Go fJ fQ→∀ K,Go xs K →
  bA P f (first++([l3 l]++cap)) (nn++K) (fun o aO=>(o = .ret (.cw [])∧(Go [] aO∨fJ aO))∨∃ v,o = .panic v∧fQ v aO)
section
variable {P:Program} {N:Nat} {Q:b9→Env→ao→Prop} {env:Env} {s:ao} {L R:a'}
theorem ae.MI {α:Type} {dE a2:α→ag} {oK:α→Prop} {xs:List α} {t u:Tmp} {g:Operand} {hl body:Code} {f:FuncId} {first cap:List ag} {nn:a'} (I:Ok s L) (av:aM env g=some (.func f first cap)) (aU:t<N) (eR:u<N)
  (oI:HJ P f first cap nn dE a2 oK xs) (ar:aG L nn R) (aej:List α→a'→Prop) (J:Code→a'→Prop) (tI:ag→a'→Prop) (bq:aej xs R)
  (tc:∀ s x rem K,aej (x::rem) K→Ok s K→ae P N hl (b9.andThen (ae P N body (Dq (At s (fun K=>oK x∧aej rem K)) (fun j=>At s (J j)) (fun v=>At s (tI v)))) (fun _ _ _=>False)) ((u,a2 x)::(t,dE x)::env) (aS s K))
  (az:∀ K,aej [] K→Ok s K→Q .normal env (aS s K))
  (aL:∀ j K,J j K→Ok s K→ae P N j Q env (aS s K))
  (ab:∀ v K,tI v K→Ok s K→Q (.panic v) env (aS s K)):ae P N (.rangeFunc g #[t,u] hl body) Q env (aS s L):=by
 refine ae.Li av (by intro bI c0;simp at c0;rcases c0 with rfl|rfl;exact aU;exact eR) fun l r aC G6=>?_
 have G7:Ok s ((.own l,.loop r env)::L):=⟨aC,I⟩;have pF:MH P dE a2 oK l (fun rem K=>∃ aO,K=(.own l,.loop r env)::aO∧aej rem aO) (fun K=>∃ j aO,K=(.own l,.loop (rl r j) env)::aO∧J j aO) (fun v K=>∃ aO,K=(.own l,.loop (busy r) env)::aO∧tI v aO):=by
  rintro x rem _ ⟨K,rfl,aq⟩ aj AR;refine (G6 [dE x,a2 x] _ (At aj (fun K=>oK x∧aej rem K)) (fun j=>At aj (J j)) (fun v=>At aj (tI v)) (ao.gn _ _ _) C ?_).less ?_
  ·have:=ao.Aj (aS aj K) l (.loop r env) AR.1
   show ae P N hl _ _ (((aS aj K).set l (.loop r env)).del l);rw [this];exact tc aj x rem K aq AR.2
  ·have key:∀ {L K R:a'} {o:dH},aS aj L l=none→Ok aj L→aG L K R→ao.Sub (aS aj ((.own l,o)::K)) ((aS aj L).set l o)∧Ok aj ((.own l,o)::K):=by
    intro L K R o U ad al;exact (aG.cons bo.here al).sub (L:=(.own l,o)::L) ⟨U,ad⟩
   rintro o eO (⟨rfl,dN,U,rfl,L,aO,R,rfl,ad,bf,al⟩|⟨rfl,j,dN,U,rfl,L,aO,R,rfl,ad,bf,al⟩|⟨v,dN,rfl,U,rfl,L,aO,R,rfl,ad,bf,al⟩)
   ·obtain ⟨cE,dq⟩:=key U ad bf (o := .loop r env)
    exact ⟨_,cE,(.own l,.loop r env)::aO,rfl,dq,.inl ⟨rfl,al.1,aO,rfl,al.2⟩⟩
   ·obtain ⟨cE,dq⟩:=key U ad bf (o := .loop (rl r j) env)
    exact ⟨_,cE,(.own l,.loop (rl r j) env)::aO,rfl,dq,.inr (.inl ⟨rfl,j,aO,rfl,al⟩)⟩
   ·obtain ⟨cE,dq⟩:=key U ad bf (o := .loop (busy r) env)
    exact ⟨_,cE,(.own l,.loop (busy r) env)::aO,rfl,dq,.inr (.inr ⟨v,rfl,aO,rfl,al⟩)⟩
 have c3:=(oI l _ _ _ pF _ ⟨R,rfl,bq⟩).at G7 ((ar.there (e:=(.own l,.loop r env))).app (aG.dB _));refine c3.mono ?_;rintro o eO ⟨M,rfl,iX,aO,rfl,h⟩;rw [d6] at iX ⊢;rcases h with ⟨rfl,⟨mJ,rfl,h⟩|⟨j,mJ,rfl,h⟩⟩|⟨v,rfl,mJ,rfl,h⟩
 ·exact .inl ⟨aS s mJ,iX.1,rfl,az mJ h iX.2⟩
 ·exact .inr ⟨j,aS s mJ,iX.1,rfl,aL j mJ h iX.2⟩
 ·exact ⟨aS s mJ,_,iX.1,rfl,ab v mJ h iX.2⟩
end
section
variable {J:ao→Prop} {P:Program} {Γ:cA} {N:Nat} {l:List Oper} {i:Nat} {rest:List Oper} {Q:b9→Env→ao→Prop} {env:Env} {s:ao} {o:Oper} {d:Nat}
theorem aK.shl {t yt:TypeId} {x y:Operand} {k k':IntKind} {a b:Int} (r:Int) (av:c6 l env o) (ax:o.dst=some d) (aU:t8 d N=true) (ai:o.op = .binOp .shl t x y yt) (ab:aM (b4 l env o) x=some (.int k a)) (ay:aM (b4 l env o) y=some (.int k' b)) (an:0≤b) (aD:k.wrap (a*2^(min b.toNat k.bits))=r)
  (h:aK J P Γ N l (i+1) rest Q ((d,.int k r)::env) s):aK J P Γ N l i (o::rest) Q env s:=
 aK.calm av ax aU (fun _ _=>aZ.shl ai ab ay an aD) h
theorem aK.shr {t yt:TypeId} {x y:Operand} {k k':IntKind} {a b:Int} (r:Int) (av:c6 l env o) (ax:o.dst=some d) (aU:t8 d N=true) (ai:o.op = .binOp .shr t x y yt) (ab:aM (b4 l env o) x=some (.int k a)) (ay:aM (b4 l env o) y=some (.int k' b)) (an:0≤b) (aD:a.fdiv (2^(min b.toNat k.bits))=r)
  (h:aK J P Γ N l (i+1) rest Q ((d,.int k r)::env) s):aK J P Γ N l i (o::rest) Q env s:=
 aK.calm av ax aU (fun _ _=>aZ.shr ai ab ay an aD) h
theorem aK.bits {op:BinOp} {t yt:TypeId} {x y:Operand} {k:IntKind} {a b:Int} (r:Int) (av:c6 l env o) (ax:o.dst=some d) (aU:t8 d N=true) (ai:o.op = .binOp op t x y yt) (ab:aM (b4 l env o) x=some (.int k a)) (ay:aM (b4 l env o) y=some (.int k b)) (aD:bitsOf op k a b=some r)
  (h:aK J P Γ N l (i+1) rest Q ((d,.int k r)::env) s):aK J P Γ N l i (o::rest) Q env s:=
 aK.calm av ax aU (fun _ _=>aZ.bits ai ab ay aD) h
end
section
variable {J:ao→Prop} {P:Program} {Γ:cA} {N:Nat} {l:List Oper} {Q:b9→Env→ao→Prop} {env:Env} {s:ao} {o:Oper} {d m:Nat} {L R:a'}
theorem bg.nh (i:Nat) (aP:bQ P Γ) (I:Ok s L) {t dW e5:TypeId} {x y z:Operand} {it gL:bO} {b:Nat} {es dF:List (ag×ag)} {k v:ag} (aD:eJ l.toArray m (idxs 0 l)=[i]) (ai:l.toArray[i]? = some o) (ax:o.dst=none)
  (av:c6 l env o) (b3:o.op = .mapUpdate t x y z∨o.op = .insert t x y z) (aN:Γ.get? t=some it) (bt:it.bF = .map dW e5) (jy:Γ.get? dW=some gL) (ab:aM (b4 l env o) x=some (.map b)) (ay:aM (b4 l env o) y=some k) (bG:aM (b4 l env o) z=some v)
  (ar:bo L (.own b) (.map es) R) (a7:kk gL.bF k=true) (aF:lZ es k v=some dF)
  (aL:Ok s ((.own b,.map dF)::R)→J (aS s ((.own b,.map dF)::R))∨kI l.toArray i=true)
  (h:Ok s ((.own b,.map dF)::R)→bg J P Γ N l.toArray Q (bZ (m|||2^i)) env (aS s ((.own b,.map dF)::R))):bg J P Γ N l.toArray Q (bZ m) env (aS s L):=
 bg.yF aD ai ax av (aZ.nh aP I b3 aN bt jy ab ay bG ar a7 aF (X:=fun _ _=>False)) (fun x aj ⟨U,ad⟩=>by subst U;exact aL ad) (fun x aj ⟨U,ad⟩=>by subst U;exact h ad) (fun _ _ h=>h.elim)
end
section
variable {P:Program} {b:Frame} {a:Act} {k:List Item} {cs:List Frame} {w:World}
theorem Bd {c:Code}:step P (lone (b.atR a (.code (.scope c)::k)) cs w) = .next (lone (b.atR a (.code c :: .inScope c::k)) cs w):=
 step_lone_go (by simp [stepG,stepG.exec,Frame.atR])
theorem Vj {c:Code}:step P (lone (b.atR a (.inScope c::k)) cs w) = .next (lone (b.atR a k) cs w):=
 step_lone_go (by simp [stepG,stepG.exec,Frame.atR])
theorem Vk {Q:hd→Act→World→Prop} {c:Code} (h:jZ P b c Q a w):jZ P b (.scope c) Q a w:=by
 intro k cs;obtain ⟨e,iQ,w₁,br,gg⟩:=h (.inScope c::k) cs;cases e with
 | normal=>exact ⟨.normal,iQ,w₁,br,.head Bd (Steps.trans gg (.one Vj))⟩
 | exit id=>
  refine ⟨.exit id,iQ,w₁,br,fun k' aE => .head Bd (gg.1 k' (by simpa [exitTo] using aE)),fun aE=>?_⟩;obtain ⟨k₁,U,ad⟩:=gg.2 (by simpa [exitTo] using aE);exact ⟨k₁,U,.head Bd ad⟩
 | ret=>obtain ⟨k₁,ar⟩:=gg;exact ⟨.ret,iQ,w₁,br,k₁,.head Bd ar⟩
 | panic dJ=>obtain ⟨k₁,ar⟩:=gg;exact ⟨.panic dJ,iQ,w₁,br,k₁,.head Bd ar⟩
theorem Vl {Q:hd→Act→World→Prop} {l:Nat} (h:Q .normal a w):jZ P b (.label l) Q a w:=
 fun _ _=>⟨.normal,a,w,h,.one stepR_label⟩
end
section
variable {P:Program} {N:Nat} {Q:b9→Env→ao→Prop} {env:Env} {s:ao}
theorem ae.scope {c:Code} (h:ae P N c Q env s):ae P N (.scope c) Q env s:=fun b B a w p e4 aI=>Vk (h b B a w p e4 aI)
theorem ae.label {l:Nat} (h:Q .normal env s):ae P N (.label l) Q env s:=fun _ _ _ _ _ _ aI=>Vl (.here .normal h aI)
end
def hv (g:List bP):ag := .aA 4 (g.map eN) .bb
def qv:Option Int→List Int→Bool
 | _,[]=>true
 | none,x::r=>decide (x≥0)&&qv (some x) r
 | some p,x::r=>decide (x≥0)&&(decide (p<x)&&qv (some x) r)
theorem MJ:∀ (r:List Int) (x:Int),tL (x::r)=(decide (x≥0)&&qv (some x) r)
  | [],x=>by rw [tL,qv,Bool.and_true]
  | y::r,x=>by
    rw [tL,qv,MJ r y];cases decide (x<y)<;>cases decide (y≥0)<;>simp
theorem Vm (l:List Int):tL l=qv none l:=by
 cases l with
 | nil=>rfl
 | cons x r=>rw [MJ,qv]
theorem pR {len i:Nat} {x:bP} (h:x.atom ≠ -1):mM len i x=true↔0≤x.atom∧x.atom<7∧x.no>i∧x.no<len∧x.yes>i∧x.yes<len∧x.ms.length=0:=by
 unfold mM;rw [f0 h];simp
theorem tS {len i:Nat} {x:bP} (h:x.atom = -1):mM len i x=true↔x.no=0∧x.yes=0∧x.ms.length≤16∧tL x.ms=true:=by
 unfold mM;rw [g6 h];simp
theorem HK (g:List bP) (av:g.length<bC):aT d0 68 [hv g] (.bool (jI g)):=by
 have an:=bD;refine aT.bh ah Tryz.func68 C C fun s I=>?_
 unfold hv;have en:jI g=jI g:=rfl
 conv at en=>rhs;unfold jI
 refine dt ?_;by_cases g1:g.length=0
 ·refine aa.dY 10 C (by simp [g1]) ?_
  rw [show decide (1≤g.length)=false by simp [g1],f9] at en;rw [en];refine ed ?_;exact bB I
 refine aa.dh 10 C (by simp;intro e;exact g1 (by rw [e];rfl)) ?_;rw [show decide (1≤g.length)=true by simp;omega,f5] at en;refine gr ?_;refine ae.cond C (fun g2=>?_) (fun g2=>?_)
 ·rw [show decide (g.length≤300)=false by simp at g2 ⊢;omega,f9] at en
  rw [en];refine gX ?_;exact bB I
 have g2:g.length≤300:=by simp at g2;omega
 rw [i7 g2,f5] at en;rw [en];refine kq ?_;refine ae.b5 [0,15,16] C I (σ:=Nat) (fun j=>[(17,.int .i64 (j:Int))]) (fun _=>[]) (fun j=>j≤g.length∧tM g.length 0 g=tM g.length j (g.drop j)) (fun j=>g.length-j) 0 ⟨g7 _,rfl⟩ (cl C) aX ?_;rintro j ⟨aL,aq⟩ I
 try simp only at aL aq I ⊢
 refine b7 ?_;refine ae.cond C (fun au=>?_) (fun aV=>?_);rotate_left
 ·have aV:j=g.length:=by simp at aV;omega
  rw [eD af,tM] at aq;rw [aq];refine ez ?_;exact bB I
 have au:j<g.length:=by simpa using au
 obtain ⟨x,ab,bL⟩:=b8 (f:=eN) au;rw [drop_cons ab,tM] at aq;unfold eN ha bd at bL
 repeat (first|(refine DD I ?_;clear I;intro I)|refine aa.eb ah I rfl rfl rfl rfl rfl rfl rfl (fun cH I=>?_))
 refine ae.cond C (fun a6=>?_) (fun a6=>?_)
 ·have a6:x.atom ≠ -1:=by simpa using a6
  refine cC I ?_;intro I;by_cases U:x.atom<0
  ·refine aa.dY 28 C (i7 U) ?_
   refine bl ?_;rw [aq,show mM g.length j x=false from ah4.2 (fun h=>by have:=(pR a6).1 h;omega),f9];skip;exact bB I
  refine aa.dh 28 C (ab' U) ?_;refine cC I ?_;intro I;by_cases ad:x.atom≥7
  ·refine aa.dY 33 C (i7 ad) ?_
   refine bl ?_;rw [aq,show mM g.length j x=false from ah4.2 (fun h=>by have:=(pR a6).1 h;omega),f9];skip;exact bB I
  refine aa.dh 33 C (ab' ad) ?_;refine cC I ?_;intro I;by_cases al:(if x.yes<x.no then x.yes else x.no)≤(j:Int)
  ·refine aa.dY 42 C (i7 al) ?_
   refine bl ?_;rw [aq,show mM g.length j x=false from ah4.2 (fun h=>by have:=(pR a6).1 h;omega),f9];skip;exact bB I
  refine aa.dh 42 C (ab' al) ?_;refine cC I ?_;intro I;by_cases bf:(if x.yes>x.no then x.yes else x.no)≥(g.length:Int)
  ·refine aa.dY 52 C cV ?_
   refine bl ?_;rw [aq,show mM g.length j x=false from ah4.2 (fun h=>by have:=(pR a6).1 h;omega),f9];skip;exact bB I
  refine aa.dh 52 C cV ?_;refine cC I ?_;intro I;refine ae.cond C (fun bE=>?_) (fun bE=>?_)
  ·have bE:x.ms.length≠0:=by simp at bE;omega
   rw [aq,show mM g.length j x=false from ah4.2 (fun h=>by have:=(pR a6).1 h;omega),f9];refine kp ?_;exact bB I
  have bE:x.ms.length=0:=by simp at bE;rw [bE];rfl
  rw [(pR a6).2 af,f5] at aq;refine bl ?_;exact bn.mk (j+1) I ⟨au,aq⟩ cj aX AM
 have a6:x.atom = -1:=by simpa using a6
 refine cC I ?_;intro I;by_cases U:x.no=0;rotate_left
 ·refine aa.dY 61 C wU ?_
  refine bl ?_;rw [aq,show mM g.length j x=false from ah4.2 (fun h=>by have:=(tS a6).1 h;omega),f9];skip;exact bB I
 refine aa.dh 61 C wU ?_;refine cC I ?_;intro I;by_cases ad:x.yes=0;rotate_left
 ·refine aa.dY 66 C s8 ?_
  refine bl ?_;rw [aq,show mM g.length j x=false from ah4.2 (fun h=>by have:=(tS a6).1 h;omega),f9];skip;exact bB I
 refine aa.dh 66 C s8 ?_;refine cC I ?_;intro I;refine ae.cond C (fun al=>?_) (fun al=>?_)
 ·rw [aq,show mM g.length j x=false from ah4.2 (fun h=>by have:=(tS a6).1 h;simp at al;omega),f9]
  refine kp ?_;exact bB I
 have al:x.ms.length≤16:=by simp at al;omega
 refine cC I ?_;intro I;refine ae.b5 [0,15,16,17,4,73,74] C I (σ:=Nat) (fun k=>[(75,.int .i64 (k:Int))]) (fun _=>[(.own cH,.box 69 (ha x))]) (fun k=>k≤x.ms.length∧tL x.ms=qv (if k=0 then none else x.ms[k-1]?) (x.ms.drop k)) (fun k=>x.ms.length-k) 0 ⟨g7 _,Vm _⟩ (cl C) (by simp only [ha];exact aX) ?_;rintro k ⟨aE,bk⟩ I
 try simp only [ha,bd] at aE bk I ⊢
 refine b7 ?_;refine ae.cond C (fun cI=>?_) (fun dV=>?_);rotate_left
 ·have dV:k=x.ms.length:=by simp at dV;omega
  rw [eD af,qv] at bk;rw [(tS a6).2 ⟨U,ad,al,bk⟩,f5] at aq;refine kL ?_;exact bn.mk (j+1) I ⟨au,aq⟩ cj aX AM
 have cI:k<x.ms.length:=by simpa using cI
 obtain ⟨y,ay,c8⟩:=b8 (f:=a8) cI;rw [drop_cons ay] at bk;unfold a8 at c8;refine dG ?_;by_cases bf:y<0
 ·refine aa.dY 82 C (i7 bf) ?_
  have bk:tL x.ms=false:=by
   rw [bk];cases (if k=0 then none else x.ms[k-1]?)<;>rw [qv,show decide (y≥0)=false by simp;omega,f9]
  rw [aq,show mM g.length j x=false from ah4.2 (fun h=>by have:=((tS a6).1 h).2.2.2;rw [bk] at this;cases this),f9];refine bl ?_;exact bB I
 refine aa.dh 82 C (ab' bf) ?_;have p8:decide (y≥0)=true:=by simp;omega
 cases k with
 | zero=>
  rw [g6 C,qv,p8,f5] at bk;refine bl ?_;exact bn.mk 1 I ⟨cI,by rw [f0 af];simpa [ay] using bk⟩ (by repeat (first|exact trivial|refine ⟨⟨_,rfl,aJ⟩,?_⟩|refine ⟨⟨_,rfl,aQ.of_eq GZ⟩,?_⟩)) aX (by show x.ms.length-1<x.ms.length-0;omega)
 | succ k=>
 rw [f0 af,Nat.add_sub_cancel] at bk;obtain ⟨z,bG,n3⟩:=b8 (f:=a8) (show k<x.ms.length by omega);rw [bG,qv,p8,f5] at bk;unfold a8 at n3;refine dU ?_;refine aa.dY 85 C ba ?_;refine cC I ?_;intro I;refine aa.idx ah k C C C C C C C C C C (by rw [dz af af];push_cast;omega) n3 C ?_;refine gr ?_;refine ae.cond C (fun bE=>?_) (fun bE=>?_)
 ·rw [show decide (z<y)=false by simp at bE ⊢;omega,f9] at bk
  rw [aq,show mM g.length j x=false from ah4.2 (fun h=>by have:=((tS a6).1 h).2.2.2;rw [bk] at this;cases this),f9];refine kp ?_;exact bB I
 rw [show decide (z<y)=true by simp at bE ⊢;omega,f5] at bk;refine gx ?_;exact bn.mk (k+2) I ⟨cI,by rw [f0 af];simpa [ay] using bk⟩ (by repeat (first|exact trivial|refine ⟨⟨_,rfl,aJ⟩,?_⟩|refine ⟨⟨_,rfl,aQ.of_eq DH⟩,?_⟩)) aX (by show x.ms.length-(k+2)<x.ms.length-(k+1);omega)
section
variable {P:Program} {Γ:cA} {N:Nat} {ops:Array Oper} {Q:b9→Env→ao→Prop} {env:Env} {s:ao} {l:List Oper} {o:Oper} {d:Nat} {L R:a'}
theorem MK (aP:bQ P Γ) {w:World} {p:bV} {S:ao} (cf:dx w p S) {t bI e ty:TypeId} {it cz aH:bO} {bY:Nat} {olds:List Value} {xs ys:List ag} {dr:bN} {base:Option Addr} {n cap:Nat} {rq:Value}
  (aN:Γ.get? t=some it) (bt:it.bF = .aA e) (c0:Γ.get? bI=some cz) (dy:∀ k,cz.bF ≠ .int k) (bJ:Γ.get? e=some aH) (U:aH.size=1) (dS:af0 aH.zero.cells.size aH.size=true)
  (aD:bH w p olds xs) (az:n=xs.length) (k4:(Builtin.firstCells 1 n (.slice base n cap)).run P w.drew = .ok olds.toArray w.drew) (ay:Rel w p rq (.aA bY ys dr)) (de:bY=1) (dC:ys.all fe=true)
  (au:cap<n+ys.length) (an:(n+ys.length)*aH.bytes≤140737488355328) (ek:n+ys.length≤9223372036854775807) :
  ∃ aY cg cs' w',(Builtin.append_ #[t,bI] ty #[.slice base n cap,rq]).run P w = .ok (.slice (some ⟨aY,0,none⟩) (n+ys.length) cg) w'∧S aY=none∧dg w p w' p∧Kept S (S.set aY (.box e cs')) w p w' p∧dx w' p (S.set aY (.box e cs')) ∧
   cs'.length=cg∧n+ys.length≤cg∧cs'.take (n+ys.length)=xs++ys:=by
 obtain ⟨info,d,g1,g2,g3,-⟩:=aP.parts aN;obtain ⟨mZ,c9,ea,dj,dQ,-⟩:=aP.parts c0;obtain ⟨j1,kC,cE,dq,fl,eK,j2,jz⟩:=aP.parts bJ;have ax:d = .slice e:=by rw [bt] at g3;cases d<;>simp [eB] at g3;rw [g3]
 subst ax;have cp:∀ k,c9 ≠ .int k:=fun k e'=>by subst e';exact dy k dQ.symm
 obtain ⟨us,iv,qb,j3,kn,tm,tn,tp⟩:=q9 ay (.inr de);have m8:=iv.length;subst de;have tE:flat us=us:=tD (q6 iv dC);have fr:=growslice_fits (need:=n+ys.length) (old:=cap) (bytes:=aH.bytes) au an;have cS:=An (ty:=ty) w g2 dj cp cE jz (base:=base) (sLen:=n) (sCap:=cap) (m:=ys.length) (olds:=olds) (news:=us) (j3 P)
  (by rw [eK,U];exact k4) (by rw [eK,U];(conv=>rhs;rw [← tE]);exact kn P w.drew (fun _ _ _=>rfl)) au af (by rw [j2];exact fr)
 have nP:n+ys.length≤grownCap w (n+ys.length) cap e:=by simp [grownCap,Question.cut]
 have fZ:olds.length=n:=by rw [aD.length,az]
 have pq:=ae0 dS;generalize tl:(Builtin.zeroCells aH.zero.cells (grownCap w (n+ys.length) cap e-(n+ys.length))).toList=aW at cS;have m9:aW.length=grownCap w (n+ys.length) cap e-(n+ys.length):=by
  rw [← tl,ae9];simp [Builtin.zeroCells,pq,U]
 generalize grownCap w (n+ys.length) cap e=G at cS nP m9;have wW:=yp cf
 obtain ⟨ar,hle,aE,k7⟩:=r9 wW (.cells (olds++us++aW).toArray e (0,0)) (.box e (xs++ys++aW.map fun _ => .any)) (fun w' iS aw fC=>⟨_,iS,by
  refine bH.append (bH.append (fC _ _ (show bH w.drew p olds xs from aD.mono k3)) (fC _ _ (iv.mono k3))) (bH.AN aW),fun o aF=>absurd (cf.lt _ _ aF) (by show ¬ w.heap.size<w.heap.size;omega)⟩)
 rw [show w.drew.heap.size=w.heap.size from rfl] at ar aE k7;refine ⟨w.heap.size,G,xs++ys++aW.map (fun _=>ag.any),_,cS,ar,k3.trans hle,(v' (w:=w) (p:=p)).trans (k3 (w:=w) (p:=p)).size aE,k7,?_,nP,?_⟩
 ·simp only [f6,d9,m9];omega
 ·rw [ai7 cV,ag9 cV]
theorem aZ.HL (aP:bQ P Γ) (I:Ok s L) {t bI e:TypeId} {x y:Operand} {it cz aH:bO} {dX bY:Nat} {ys:List ag} {dr:bN}
  (ai:o.op = .call { callee := .builtin .append,args := #[x,y],argTypes := #[t,bI] }) (aN:Γ.get? t=some it) (bt:it.bF = .aA e) (c0:Γ.get? bI=some cz) (dy:∀ k,cz.bF ≠ .int k)
  (bJ:Γ.get? e=some aH) (U:aH.size=1) (dS:af0 aH.zero.cells.size aH.size=true) (ab:aM env x=some (.aA dX [] .nil)) (ay:aM env y=some (.aA bY ys dr)) (de:bY=1) (dC:ys.all fe=true) (cJ:1≤ys.length) (an:ys.length*aH.bytes≤140737488355328) (ek:ys.length≤9223372036854775807)
  {X:ag→ao→Prop}:aZ P N o env (aS s L) (fun r aj=>Grown s L e ys.length ys r aj) X:=by
 refine aZ.kB iW fun ro B a w p aI=>?_
 have gp:=aI.aM ab;have fs:=aI.aM ay;have eQ:=fun val w'=>u0 (P:=P) (a:=a) (val:=val) (w:=w) (w':=w') ai
 generalize ep:a.eval x=dR at gp eQ;generalize e9:a.eval y=fW at fs eQ;have tF:dR = .slice none 0 0:=by
  cases gp with
  | h4=>rfl
  | iE a _ _ h=>rcases h with h|h<;>cases h
  | aA g off n cap _ vs _ _ az=>exact absurd C az
 subst tF
 obtain ⟨aY,cg,cs',w',e8,fB,gq,jl,mA,mB,nk,nm⟩:=MK (ty:=o.type) aP aI.wf (base:=none) (n:=0) (cap:=0) (olds:=[]) (xs:=[]) aN bt c0 dy bJ U dS .nil rfl (by
  have:=run_firstCells_none (P:=P) w.drew 1 0 0 0
  simpa using this) fs de dC af (by simpa using an) af
 rw [af5] at e8 nk nm;exact ⟨_,w',_,p,_,eQ _ _ e8,gq,jl,mA,⟨aY,cg,cs',rfl,rfl,⟨fB,I⟩,mB,nk,by simpa using nm⟩,.hG _⟩
theorem aZ.HM (aP:bQ P Γ) (I:Ok s L) {t bI e:TypeId} {x y:Operand} {it cz aH:bO} {b n cap bY:Nat} {cs ys:List ag} {dr:bN}
    (ai:o.op = .call { callee := .builtin .append,args := #[x,y],argTypes := #[t,bI] }) (aN:Γ.get? t=some it) (bt:it.bF = .aA e) (c0:Γ.get? bI=some cz) (dy:∀ k,cz.bF ≠ .int k)
    (bJ:Γ.get? e=some aH) (U:aH.size=1) (dS:af0 aH.zero.cells.size aH.size=true) (ab:aM env x=some (ee b n cap)) (ar:bo L (.own b) (.box e cs) R) (cy:cs.length=cap) (az:n≤cap) (hJ:(cs.take n).all fe=true)
    (ay:aM env y=some (.aA bY ys dr)) (de:bY=1) (dC:ys.all fe=true) (an:(n+ys.length)*aH.bytes≤140737488355328) (ek:n+ys.length≤9223372036854775807)
    {X:ag→ao→Prop}:aZ P N o env (aS s L) (fun r aj=>Grown s R e (n+ys.length) (cs.take n++ys) r aj) X:=by
  obtain ⟨b2,bU,e1⟩:=ar.perm I;refine aZ.kB iW fun ro B a w p aI=>?_
  have gp:=aI.aM ab;have fs:=aI.aM ay;have eQ:=fun val w'=>u0 (P:=P) (a:=a) (val:=val) (w:=w) (w':=w') ai
  generalize ep:a.eval x=dR at gp eQ;generalize e9:a.eval y=fW at fs eQ;cases gp;obtain ⟨vs,cu,cL,dT⟩:=aI.wf.obj _ _ (ar.get I);have fC:vs.toList.length=cap:=by rw [cL.length,cy]
  have hr:=cL.take n;have wX:=q6 hr hJ;have qd:∀ w':World,(∀ j,w'.cell? ⟨b,j,none⟩=w.cell? ⟨b,j,none⟩)→(Builtin.firstCells 1 n (.slice (some ⟨b,0,none⟩) n cap)).run P w' = .ok (vs.toList.take n).toArray w':=by
    intro w' iS;refine run_firstCells_some (P:=P) w' 1 n ⟨b,0,none⟩ n cap (vs.toList.take n) (by rw [ae8,fC];omega) (fun j u hu=>?_);rw [lB,af5,iS,jO cu];rw [ai4] at hu;split at hu
    · simpa using hu
    · cases hu
  by_cases au:cap<n+ys.length
  · obtain ⟨aY,cg,cs',w',e8,fB,gq,jl,mA,mB,nk,nm⟩:=MK (ty:=o.type) aP aI.wf (base:=some ⟨b,0,none⟩) (n:=n) (cap:=cap) (olds:=vs.toList.take n) (xs:=cs.take n) aN bt c0 dy bJ U dS hr yi
      (qd w.drew fun _=>rfl) fs de dC au an ek
    have hU:ao.Sub ((aS s R).set aY (.box e cs')) ((aS s L).set aY (.box e cs')):=by
      refine DC (k := .own aY) ?_;rw [b2];exact yI (k := .own b) (ao.pr _) bU
    have av:aS s R aY=none:=by
      have h:=fB;rw [b2] at h;exact (ao.uK h).2
    exact ⟨_,w',_,p,_,eQ _ _ e8,gq,jl.sub hU,mA.sub hU,⟨aY,cg,cs',rfl,rfl,⟨av,e1⟩,mB,nk,nm⟩,.hG _⟩
  · obtain ⟨info,d,g1,g2,g3,-⟩:=aP.parts aN
    obtain ⟨mZ,c9,ea,dj,dQ,-⟩:=aP.parts c0;obtain ⟨j1,kC,cE,dq,fl,eK,j2,jz⟩:=aP.parts bJ;have ax:d = .slice e:=by rw [bt] at g3;cases d<;>simp [eB] at g3;rw [g3]
    subst ax;have cp:∀ k,c9 ≠ .int k:=fun k e'=>by subst e';exact dy k dQ.symm
    subst de;obtain ⟨us,iv,qb,j3,kn,tm,tn,tp⟩:=q9 (sz':=1) fs (.inr rfl);have m8:=iv.length;have mI:∀ x∈us,x.oneCell'=true:=q6 iv dC;have tE:flat us=us:=tD mI;have eP:vs.size=cap:=by rw [← ae9];exact fC
    have cS:=C9 (ty:=o.type) (P:=P) w g2 dj cp cE b n cap vs cu (xv:=fW) (m:=ys.length) (news:=us) (j3 P) (by rw [eK,U];(conv=>rhs;rw [← tE]);exact kn P w (fun _ _ _=>rfl)) mI af (by rw [eK,U,eP];omega);rw [eK,U,ag'] at cS;have gW:bH w p (vs.toList.take n++us++vs.toList.drop (n+us.length)) (cs.take n++ys++cs.drop (n+us.length)):=bH.append (bH.append hr iv) (cL.drop _);have ck:(aS s L) b=some (.box e cs):=ar.get I
    obtain ⟨dm,jG,ix⟩:=wm aI.wf ck (vs':=(vs.toList.take n++us++vs.toList.drop (n+us.length)).toArray) (cs':=cs.take n++ys++cs.drop (n+us.length)) (fun AP bq=>by
      rw [cu] at bq;cases bq
      simp only [an1,f6,ae8,ai1,fC]
      rw [eP];omega) (by simpa using gW) _ C
    obtain ⟨f1,f2⟩:=ar.put (.box e (cs.take n++ys++cs.drop (n+us.length))) I;refine ⟨_,_,_,p,_,eQ _ _ cS,dm,jG,ix,⟨b,cap,cs.take n++ys++cs.drop (n+us.length),rfl,f1,f2,?_,by omega,?_⟩,.hG _⟩
    · simp only [f6,ae8,ai1,cy];omega
    · have:(cs.take n++ys).length=n+ys.length:=by simp [cy];omega
      rw [ai7 af,ag9 af]
theorem aZ.HN (aP:bQ P Γ) {t bI e:TypeId} {x y:Operand} {it cz aH:bO} {dX bY:Nat} {dr:bN}
  (ai:o.op = .call { callee := .builtin .append,args := #[x,y],argTypes := #[t,bI] }) (aN:Γ.get? t=some it) (bt:it.bF = .aA e) (c0:Γ.get? bI=some cz) (dy:∀ k,cz.bF ≠ .int k)
  (bJ:Γ.get? e=some aH) (ab:aM env x=some (.aA dX [] .nil)) (ay:aM env y=some (.aA bY [] dr)) {X:ag→ao→Prop}:aZ P N o env s (fun r aj=>r = .aA 0 [] .nil∧aj=s) X:=by
 refine aZ.kB iW fun ro B a w p aI=>?_
 have gp:=aI.aM ab;have fs:=aI.aM ay;have eQ:=fun val w'=>u0 (P:=P) (a:=a) (val:=val) (w:=w) (w':=w') ai
 generalize ep:a.eval x=dR at gp eQ;generalize e9:a.eval y=fW at fs eQ;have tF:dR = .slice none 0 0:=by
  cases gp with
  | h4=>rfl
  | iE a _ _ h=>rcases h with h|h<;>cases h
  | aA g off n cap _ vs _ _ az=>exact absurd C az
 subst tF;obtain ⟨info,d,g1,g2,g3,-⟩:=aP.parts aN;obtain ⟨mZ,c9,ea,dj,dQ,-⟩:=aP.parts c0;obtain ⟨j1,kC,cE,dq,fl,eK,j2,jz⟩:=aP.parts bJ;have ax:d = .slice e:=by rw [bt] at g3;cases d<;>simp [eB] at g3;rw [g3]
 subst ax;have cp:∀ k,c9 ≠ .int k:=fun k e'=>by subst e';exact dy k dQ.symm
 obtain ⟨us,iv,qb,j3,kn,tm,tn,tp⟩:=q9 (sz':=aH.size) fs (.inl rfl);cases iv;have aC:=j3 P;have a7:=kn P w (fun _ _ _=>rfl);rw [List.length_nil] at aC a7;have bG:(match c9 with | .int _=>true|_=>false)=false:=by cases c9<;>first|rfl|exact absurd C (cp _)
 have cS:(Builtin.append_ #[t,bI] o.type #[.slice none 0 0,fW]).run P w = .ok (.slice none 0 0) w:=by
  simp [Builtin.append_,run_underlying g2,run_underlying dj,sizeOf,typeInfo,cE,eK,bG,aC,a7]
 exact ⟨_,w,s,p,_,eQ _ _ cS,.refl w p,.refl s w p,aI.wf,⟨rfl,rfl⟩,.h4 _ _ (fun _=>by simp)⟩
theorem aa.HN (aP:bQ P Γ) {t bI e:TypeId} {x y:Operand} {it cz aH:bO} {dX bY:Nat} {dr:bN} (av:guardOf ops env o=some true) (ax:o.dst=some d) (aU:t8 d N=true)
  (ai:o.op = .call { callee := .builtin .append,args := #[x,y],argTypes := #[t,bI] }) (aN:Γ.get? t=some it) (bt:it.bF = .aA e) (c0:Γ.get? bI=some cz) (dy:∀ k,cz.bF ≠ .int k)
  (bJ:Γ.get? e=some aH) (ab:aM env x=some (.aA dX [] .nil)) (ay:aM env y=some (.aA bY [] dr)) (h:aa P N ops l Q ((d,.aA 0 [] .nil)::env) s):aa P N ops (o::l) Q env s:=
 aa.op av ax aU (aZ.HN aP ai aN bt c0 dy bJ ab ay (X:=fun _ _=>False)) (fun x aj ⟨U,ad⟩=>by subst U;subst ad;exact h) (fun _ _ h=>h.elim)
theorem aa.HL (aP:bQ P Γ) (I:Ok s L) {t bI e:TypeId} {x y:Operand} {it cz aH:bO} {dX bY:Nat} {ys:List ag} {dr:bN} (av:guardOf ops env o=some true) (ax:o.dst=some d) (aU:t8 d N=true)
  (ai:o.op = .call { callee := .builtin .append,args := #[x,y],argTypes := #[t,bI] }) (aN:Γ.get? t=some it) (bt:it.bF = .aA e) (c0:Γ.get? bI=some cz) (dy:∀ k,cz.bF ≠ .int k)
  (bJ:Γ.get? e=some aH) (U:aH.size=1) (dS:af0 aH.zero.cells.size aH.size=true) (ab:aM env x=some (.aA dX [] .nil)) (ay:aM env y=some (.aA bY ys dr)) (de:bY=1) (dC:ys.all fe=true) (cJ:1≤ys.length) (an:ys.length*aH.bytes≤140737488355328) (ek:ys.length≤9223372036854775807)
  (h:∀ aY cg cs',cs'.length=cg→ys.length≤cg→cs'.take ys.length=ys→Ok s ((.own aY,.box e cs')::L)→aa P N ops l Q ((d,ee aY ys.length cg)::env) (aS s ((.own aY,.box e cs')::L))):aa P N ops (o::l) Q env (aS s L):=by
 refine aa.op av ax aU (aZ.HL aP I ai aN bt c0 dy bJ U dS ab ay de dC cJ an ek (X:=fun _ _=>False)) ?_ (fun _ _ h=>h.elim);rintro r aj ⟨aY,cg,cs',rfl,rfl,ad,al,bf,bE⟩;exact h aY cg cs' al bf bE ad
theorem aa.HM (aP:bQ P Γ) (I:Ok s L) {t bI e:TypeId} {x y:Operand} {it cz aH:bO} {b n cap bY:Nat} {cs ys:List ag} {dr:bN} (av:guardOf ops env o=some true) (ax:o.dst=some d) (aU:t8 d N=true)
  (ai:o.op = .call { callee := .builtin .append,args := #[x,y],argTypes := #[t,bI] }) (aN:Γ.get? t=some it) (bt:it.bF = .aA e) (c0:Γ.get? bI=some cz) (dy:∀ k,cz.bF ≠ .int k)
  (bJ:Γ.get? e=some aH) (U:aH.size=1) (dS:af0 aH.zero.cells.size aH.size=true) (ab:aM env x=some (ee b n cap)) (ar:bo L (.own b) (.box e cs) R) (cy:cs.length=cap) (az:n≤cap) (hJ:(cs.take n).all fe=true)
  (ay:aM env y=some (.aA bY ys dr)) (de:bY=1) (dC:ys.all fe=true) (an:(n+ys.length)*aH.bytes≤140737488355328) (ek:n+ys.length≤9223372036854775807)
  (h:∀ aY cg cs',cs'.length=cg→n+ys.length≤cg→cs'.take (n+ys.length)=cs.take n++ys→Ok s ((.own aY,.box e cs')::R)→aa P N ops l Q ((d,ee aY (n+ys.length) cg)::env) (aS s ((.own aY,.box e cs')::R))):aa P N ops (o::l) Q env (aS s L):=by
 refine aa.op av ax aU (aZ.HM aP I ai aN bt c0 dy bJ U dS ab ar cy az hJ ay de dC an ek (X:=fun _ _=>False)) ?_ (fun _ _ h=>h.elim);rintro r aj ⟨aY,cg,cs',rfl,rfl,ad,al,bf,bE⟩;exact h aY cg cs' al bf bE ad
end
end Go.Proofs.YtnafpeohfbglmaaGreat
