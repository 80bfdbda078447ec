import Derived.Test.YtnafpeohfbglmaaGreatRc
import Derived.Shelf.Sort.Plain
import Derived.KernelRfl
import Derived.WalkKit
import Derived.Defers
import Derived.Recover
import Derived.Laws.MakeOwn
import Derived.Laws.CopyRow
set_option linter.unusedVariables false
set_option linter.unusedSimpArgs false
set_option maxRecDepth 100000
set_option maxHeartbeats 4000000
open Array renaming ext_getElem?→at3,getElem?_eq_some_iff→i9,getElem?_modify→al6,getElem?_toList→ar',length_toList→ac7,replicate→ai9
open BitVec renaming ofInt→ah8,ofNat→ax2,toNat_and→au1,toNat_ofNat→ai8,toNat_or→ay3
open Bool renaming and_eq_true→f7,eq_false_iff→ad0,eq_iff_iff→ad3,false_and→f5,not_false→ah0,not_true→ah7,or_assoc→ao7,or_eq_true→ag',true_and→f0
open Int renaming le_refl→ai0,toNat_natCast→ac0
open Go.IntKind renaming bits→ak1,signed→av4,wrap→H1
open List renaming any_eq_true→ae2,append_assoc→ae',append_nil→d7,cons_append→ab',cons_beq_cons→at1,contains_iff_mem→af7,drop_zero→aj',findIdx?_eq_none_iff→af8,findIdx?_eq_some_iff_getElem→ae8,getD_eq_getElem?_getD→d6,getElem?_append_left→ad6,getElem?_append_right→ad5,getElem?_drop→as',getElem?_eq_getElem→g6,getElem?_eq_some_iff→ac3,getElem?_map→ad2,getElem?_of_mem→ag3,getElem?_take→af',getElem_mem→aj6,isEmpty→an3,length_append→f8,length_cons→i8,length_drop→ag2,length_filter_le→ag6,length_map→f6,length_replicate→ad9,length_singleton→ae6,length_take_le'→ai6,length_take→ac8,map_append→ac2,map_cons→ac4,map_nil→ae5,map_take→ao6,map_toArray→ao2,mem_append→ac9,mem_cons_of_mem→i5,mem_cons_self→i7,mem_cons→ad1,mem_filter→af6,mem_map→ad7,mem_of_getElem?→d5,mem_replicate→ar1,mem_singleton→z2,nil_append→d8,replicate→t7,size_toArray→ak7,take_add_one→ak6,take_append_drop→ag5,take_append_of_le_length→ag4,take_length→ac6,take_of_length_le→af0,take_zero→aj2
open Nat renaming and_le_left→as2,beq→ac',blt→t6,eq_of_beq_eq_true→ac1,eq_of_testBit_eq→ak',le_add_right→ax7,le_refl→i0,le_trans→ai',lt_of_le_of_lt→ah5,lt_of_lt_of_le→ai7,lt_or_ge→am0,lt_succ_iff_lt_or_eq→af1,lt_succ_self→aj5,min_eq_left→ak2,mod_eq_of_lt→aj4,mul_le_mul_right→ak3,mul_one→ag7,not_lt_zero→al',or_lt_two_pow→ag9,pow_le_pow_right→af4,pow_lt_pow_right→ag1,sub_self→ao1,sub_zero→az',testBit_and→aj3,testBit_lt_two_pow→ak5,testBit_or→aj8,testBit_two_pow_sub_one→af9,testBit_two_pow→aj0,zero_add→ae4,zero_le→g7
open Option renaming getD_some→ae1,map_none→aq3,map_some→al9
open Go.Result renaming andThen_ok→g9
open Go.Sem renaming runT_eq→ar9,run_bind→aa',run_pure→ac5
open Go.Proofs.Tryz renaming prog→d0
theorem FL {p:Prop} (h:p:=by rw [br];exact (by simp only [List.length_map,List.length_nil];exact aY)):p:=h
theorem x8 {p:Prop} (h:p:=by repeat (first|exact trivial|refine ⟨⟨_,rfl,aM⟩,?_⟩|refine ⟨⟨_,rfl,aS.of_eq (by (first|rw [jv (by omega)]|(rw [List.map_append];rfl)))⟩,?_⟩)):p:=h
theorem j1 {p:Prop} (h:p:=by repeat (first|exact trivial|refine ⟨⟨_,rfl,aM⟩,?_⟩|refine ⟨⟨_,rfl,aS.of_eq (by (first|rw [jv (by omega)]|rw [au]))⟩,?_⟩)):p:=h
theorem z1 {p:Prop} (h:p:=by repeat (first|exact trivial|refine ⟨⟨_,rfl,aM⟩,?_⟩|refine ⟨⟨_,rfl,aS.of_eq (by simp)⟩,?_⟩)):p:=h
theorem FM {p:Prop} (h:p:=by show aH _ [(_,.row _ _ (xs (j+1)).length)] _;rw [dd];exact aH.cons bp.here .nil):p:=h
theorem z6 {p:Prop} (h:p:=by (rw [eo (by omega) (by omega)];push_cast;rfl)):p:=h
theorem CU {p:Prop} (h:p:=by (rw [eo (by omega) (by omega)];rfl)):p:=h
theorem FN {p:Prop} (h:p:=by rw [eo (by omega) (by omega)];omega):p:=h
theorem FO {p:Prop} (h:p:=by show cur.length-(i+1)<cur.length-i;omega):p:=h
theorem FP {p:Prop} (h:p:=by show 2+g.length-(j+1)<2+g.length-j;omega):p:=h
theorem rR {p:Prop} (h:p:=by show xs.length-(j+1)<xs.length-j;omega):p:=h
theorem tg {p:Prop} (h:p:=by show g.length-(j+1)<g.length-j;omega):p:=h
theorem CV {p:Prop} (h:p:=by show a.length-(j+1)<a.length-j;omega):p:=h
theorem uE {p:Prop} (h:p:=by rw [List.length_replicate];omega):p:=h
theorem pN {p:Prop} (h:p:=by show (_+1)*24≤_;omega):p:=h
theorem j2 {p:Prop} (h:p:=by show (_+1)*8≤_;omega):p:=h
theorem gW {p:Prop} (h:p:=by intro b h;cases h):p:=h
theorem th {p:Prop} (h:p:=by simpa using U):p:=h
theorem et {p:Prop} (h:p:=by intro k;simp):p:=h
theorem hc {p:Prop} (h:p:=by simp<;>omega):p:=h
theorem dW {p:Prop} (h:p:=by decide):p:=h
namespace Go.cW
def eu (b n cap:Nat):af := .hB (.slice (some ⟨b,0,none⟩) n cap)
theorem bF.z7 {w:World} {p:bT}:∀ vs:List Value,bF w p vs (vs.map fun _ => .any)
 | [] => .nil
 | v::vs => .cons v .any vs _ (.any v) (bF.z7 vs)
theorem z8 {v:Value} (h:v.oneCell'=true):v.cells = #[v]:=by
 cases v<;>first|rfl|(simp [Value.oneCell'] at h;done)
theorem ti:∀ {vs:List Value},(∀ v∈vs,v.oneCell'=true)→flat vs=vs
  | [],_=>rfl
  | v::vs,h=>by
    have U:=ti (vs:=vs) fun u hu=>h u (i5 _ hu)
    unfold flat at U ⊢;rw [List.flatMap_cons,U,z8 (h v i7)];rfl
section
variable {P:Program} {Γ:cz} {N:Nat} {ops:Array Oper} {Q:b8→Env→ao→Prop} {env:Env} {s:ao} {l:List Oper} {o:Oper} {d:Nat} {L R:a'}
def Grown (s:ao) (R:a') (e:TypeId) (n:Nat) (xs:List af) (r:af) (al:ao):Prop:=
 ∃ aX cf cs',r=eu aX n cf∧al=aT s ((.own aX,.box e cs')::R)∧Ok s ((.own aX,.box e cs')::R)∧cs'.length=cf∧n≤cf∧cs'.take n=xs
theorem Kp (aP:bQ P Γ) {w:World} {p:bT} {S:ao} (cd:dq w p S) {t bH e ty:TypeId} {it cw aG:bN} {bU:Nat} {olds:List Value} {xs:List af} {v:af} {dk:bM} {base:Option Addr} {n cap:Nat} {qI:Value}
  (aN:Γ.get? t=some it) (bs:it.bG = .aC e) (cZ:Γ.get? bH=some cw) (dr:∀ k,cw.bG ≠ .int k) (bI:Γ.get? e=some aG) (U:aG.size=1) (dV:ac' aG.zero.cells.size aG.size=true)
  (aF:bF w p olds xs) (az:n=xs.length) (pA:(Builtin.firstCells 1 n (.slice base n cap)).run P w.drew = .ok olds.toArray w.drew) (ay:Rel w p qI (.aC bU [v] dk)) (c8:bU=1) (dP:fa v=true)
  (ar:cap<n+1) (aq:(n+1)*aG.bytes≤140737488355328) (er:n+1≤9223372036854775807) :
  ∃ aX cf cs' w',(Builtin.append_ #[t,bH] ty #[.slice base n cap,qI]).run P w = .ok (.slice (some ⟨aX,0,none⟩) (n+1) cf) w'∧S aX=none∧de w p w' p∧Kept S (S.set aX (.box e cs')) w p w' p∧dq w' p (S.set aX (.box e cs')) ∧
   cs'.length=cf∧n+1≤cf∧cs'.take (n+1)=xs++[v]:=by
 obtain ⟨info,d,g1,g2,g3,-⟩:=aP.parts aN;obtain ⟨mK,c6,ek,dj,dT,-⟩:=aP.parts cZ;obtain ⟨jU,kA,cA,db,fe,eH,jV,js⟩:=aP.parts bI;have ax:d = .slice e:=by rw [bs] at g3;cases d<;>simp [ez] at g3;rw [g3]
 subst ax;have cm:∀ k,c6 ≠ .int k:=fun k e'=>by subst e';exact dr k dT.symm
 obtain ⟨us,il,pB,jW,ki,sY,sZ,s0⟩:=qu ay (.inr c8);have mQ:=il.length;cases il with
 | cons u _ vN _ hu wz=>
 cases wz;subst c8;have tj:flat [u]=[u]:=ti (by intro x ab;rw [z2] at ab;subst ab;exact E2 hu dP);have fB:=growslice_fits (need:=n+1) (old:=cap) (bytes:=aG.bytes) ar aq;have cN:=zC (ty:=ty) w g2 dj cm cA js (base:=base) (sLen:=n) (sCap:=cap) (m:=1) (olds:=olds) (news:=[u]) (jW P)
  (by rw [eH,U];exact pA) (by rw [eH,U,← tj];exact ki P w.drew (fun _ _ _=>rfl)) ar ag (by rw [jV];exact fB)
 have ns:n+1≤grownCap w (n+1) cap e:=by simp [grownCap,Question.cut]
 have gh:olds.length=n:=by rw [aF.length,az]
 have oM:=ac1 dV;generalize sX:(Builtin.zeroCells aG.zero.cells (grownCap w (n+1) cap e-(n+1))).toList=a1 at cN;have nt:a1.length=grownCap w (n+1) cap e-(n+1):=by
  rw [← sX,ac7];simp [Builtin.zeroCells,oM,U]
 generalize grownCap w (n+1) cap e=G at cN ns nt;have wA:=xP cd
 obtain ⟨au,hle,aD,k0⟩:=rD wA (.cells (olds++[u]++a1).toArray e (0,0)) (.box e (xs++[v]++a1.map fun _ => .any)) (fun w' iO av ft=>⟨_,iO,by
  refine bF.append (bF.append (ft _ _ (show bF w.drew p olds xs from aF.mono kX)) (ft _ _ (.cons _ _ _ _ (hu.mono kX) .nil))) (bF.z7 a1),fun o aE=>absurd (cd.lt _ _ aE) (by show ¬ w.heap.size<w.heap.size;omega)⟩)
 rw [show w.drew.heap.size=w.heap.size from rfl] at au aD k0;refine ⟨w.heap.size,G,xs++[v]++a1.map (fun _=>af.any),_,cN,au,kX.trans hle,(vD (w:=w) (p:=p)).trans (kX (w:=w) (p:=p)).size aD,k0,?_,ns,?_⟩
 ·simp only [f8,f6,ae6,nt];omega
 ·rw [ag4 cE,af0 cE]
theorem uF {t bH:TypeId} {x y:Operand} {a:Act} {val:Value} {w w':World} (ah:o.op = .call { callee := .builtin .append,args := #[x,y],argTypes := #[t,bH] }) (h:(Builtin.append_ #[t,bH] o.type #[a.eval x,a.eval y]).run P w = .ok val w') :
  (execOp a.eval o).run P w = .ok (.value val) w':=by
 unfold execOp;rw [ah];simp only [resolve,invoke,builtin,aa',ac5,g9,ao2,ac4,ae5,h]
theorem a7.CW (aP:bQ P Γ) (I:Ok s L) {t bH e:TypeId} {x y:Operand} {it cw aG:bN} {dZ bU:Nat} {v:af} {dk:bM}
  (ah:o.op = .call { callee := .builtin .append,args := #[x,y],argTypes := #[t,bH] }) (aN:Γ.get? t=some it) (bs:it.bG = .aC e) (cZ:Γ.get? bH=some cw) (dr:∀ k,cw.bG ≠ .int k)
  (bI:Γ.get? e=some aG) (U:aG.size=1) (dV:ac' aG.zero.cells.size aG.size=true) (ab:aL env x=some (.aC dZ [] .nil)) (ay:aL env y=some (.aC bU [v] dk)) (c8:bU=1) (dP:fa v=true) (aq:1*aG.bytes≤140737488355328)
  {X:af→ao→Prop}:a7 P N o env (aT s L) (fun r al=>Grown s L e 1 [v] r al) X:=by
 refine a7.ky jf fun ro B a w p aI=>?_
 have gl:=aI.aL ab;have fl:=aI.aL ay;have eM:=fun val w'=>uF (P:=P) (a:=a) (val:=val) (w:=w) (w':=w') ah
 generalize eA:a.eval x=dX at gl eM;generalize ff:a.eval y=ga at fl eM;have tk:dX = .slice none 0 0:=by
  cases gl with
  | hY=>rfl
  | iA a _ _ h=>rcases h with h|h<;>cases h
  | aC g off n cap _ vs _ _ az=>exact absurd C az
 subst tk
 obtain ⟨aX,cf,cs',w',fs,gD,hs,jc,mh,mi,mX,mY⟩:=Kp (ty:=o.type) aP aI.wf (base:=none) (n:=0) (cap:=0) (olds:=[]) (xs:=[]) aN bs cZ dr bI U dV .nil rfl (by
  have:=run_firstCells_none (P:=P) w.drew 1 0 0 0
  simpa using this) fl c8 dP ag (by simpa using aq) ag
 exact ⟨_,w',_,p,_,eM _ _ fs,hs,jc,mh,⟨aX,cf,cs',rfl,rfl,⟨gD,I⟩,mi,mX,by simpa using mY⟩,.hB _⟩
theorem a7.CX (aP:bQ P Γ) (I:Ok s L) {t bH e:TypeId} {x y:Operand} {it cw aG:bN} {b n cap bU:Nat} {cs:List af} {v:af} {dk:bM}
    (ah:o.op = .call { callee := .builtin .append,args := #[x,y],argTypes := #[t,bH] }) (aN:Γ.get? t=some it) (bs:it.bG = .aC e) (cZ:Γ.get? bH=some cw) (dr:∀ k,cw.bG ≠ .int k)
    (bI:Γ.get? e=some aG) (U:aG.size=1) (dV:ac' aG.zero.cells.size aG.size=true) (ab:aL env x=some (eu b n cap)) (au:bp L (.own b) (.box e cs) R) (ct:cs.length=cap) (az:n≤cap) (iC:(cs.take n).all fa=true)
    (ay:aL env y=some (.aC bU [v] dk)) (c8:bU=1) (dP:fa v=true) (aq:(n+1)*aG.bytes≤140737488355328) (er:n+1≤9223372036854775807)
    {X:af→ao→Prop}:a7 P N o env (aT s L) (fun r al=>Grown s R e (n+1) (cs.take n++[v]) r al) X:=by
  obtain ⟨cb,b1,eV⟩:=au.perm I;refine a7.ky jf fun ro B a w p aI=>?_
  have gl:=aI.aL ab;have fl:=aI.aL ay;have eM:=fun val w'=>uF (P:=P) (a:=a) (val:=val) (w:=w) (w':=w') ah
  generalize eA:a.eval x=dX at gl eM;generalize ff:a.eval y=ga at fl eM;cases gl;obtain ⟨vs,c7,dh,e3⟩:=aI.wf.obj _ _ (au.get I);have ft:vs.toList.length=cap:=by rw [dh.length,ct]
  have hH:=dh.take n;have wB:=qs hH iC;have pD:∀ w':World,(∀ j,w'.cell? ⟨b,j,none⟩=w.cell? ⟨b,j,none⟩)→(Builtin.firstCells 1 n (.slice (some ⟨b,0,none⟩) n cap)).run P w' = .ok (vs.toList.take n).toArray w':=by
    intro w' iO;refine run_firstCells_some (P:=P) w' 1 n ⟨b,0,none⟩ n cap (vs.toList.take n) (by rw [ac8,ft];omega) (fun j u hu=>?_);rw [lo,ae4,iO,jJ c7];rw [af'] at hu;split at hu
    · simpa using hu
    · cases hu
  by_cases ar:cap<n+1
  · obtain ⟨aX,cf,cs',w',fs,gD,hs,jc,mh,mi,mX,mY⟩:=Kp (ty:=o.type) aP aI.wf (base:=some ⟨b,0,none⟩) (n:=n) (cap:=cap) (olds:=vs.toList.take n) (xs:=cs.take n) aN bs cZ dr bI U dV hH xI
      (pD w.drew fun _=>rfl) fl c8 dP ar aq er
    have hN:ao.Sub ((aT s R).set aX (.box e cs')) ((aT s L).set aX (.box e cs')):=by
      refine CP (k := .own aX) ?_;rw [cb];exact x5 (k := .own b) (ao.oN _) b1
    have aw:aT s R aX=none:=by
      have h:=gD;rw [cb] at h;exact (ao.uk h).2
    exact ⟨_,w',_,p,_,eM _ _ fs,hs,jc.sub hN,mh.sub hN,⟨aX,cf,cs',rfl,rfl,⟨aw,eV⟩,mi,mX,mY⟩,.hB _⟩
  · obtain ⟨info,d,g1,g2,g3,-⟩:=aP.parts aN
    obtain ⟨mK,c6,ek,dj,dT,-⟩:=aP.parts cZ;obtain ⟨jU,kA,cA,db,fe,eH,jV,js⟩:=aP.parts bI;have ax:d = .slice e:=by rw [bs] at g3;cases d<;>simp [ez] at g3;rw [g3]
    subst ax;have cm:∀ k,c6 ≠ .int k:=fun k e'=>by subst e';exact dr k dT.symm
    subst c8;obtain ⟨us,il,pB,jW,ki,sY,sZ,s0⟩:=qu (sz':=1) fl (.inr rfl);cases il with
    | cons u _ vN _ hu wz=>
    cases wz;have j3:∀ x∈[u],x.oneCell'=true:=by intro x ab;rw [z2] at ab;subst ab;exact E2 hu dP
    have tj:flat [u]=[u]:=ti j3;have eL:vs.size=cap:=by rw [← ac7];exact ft
    have cN:=Cn (ty:=o.type) (P:=P) w g2 dj cm cA b n cap vs c7 (xv:=ga) (m:=1) (news:=[u]) (jW P) (by rw [eH,U,← tj];exact ki P w (fun _ _ _=>rfl)) j3 ag (by rw [eH,U,eL];simp;omega);rw [eH,U,ag7] at cN;have hh:bF w p (vs.toList.take n++[u]++vs.toList.drop (n+[u].length)) (cs.take n++[v]++cs.drop (n+1)):=bF.append (bF.append hH (.cons _ _ _ _ hu .nil)) (dh.drop _);have cj:(aT s L) b=some (.box e cs):=au.get I
    obtain ⟨df,kl,iG⟩:=vM aI.wf cj (vs':=(vs.toList.take n++[u]++vs.toList.drop (n+[u].length)).toArray) (cs':=cs.take n++[v]++cs.drop (n+1)) (fun z' br=>by
      rw [c7] at br;cases br
      simp only [ak7,f8,ac8,ag2,ae6,ft]
      rw [eL];omega) (by simpa using hh) _ C
    obtain ⟨f1,f2⟩:=au.put (.box e (cs.take n++[v]++cs.drop (n+1))) I;refine ⟨_,_,_,p,_,eM _ _ cN,df,kl,iG,⟨b,cap,cs.take n++[v]++cs.drop (n+1),rfl,f1,f2,?_,by omega,?_⟩,.hB _⟩
    · simp only [f8,ac8,ag2,ae6,ct];omega
    · have:(cs.take n++[v]).length=n+1:=by simp [ct];omega
      rw [ag4 ag,af0 ag]
theorem aa.CW (aP:bQ P Γ) (I:Ok s L) {t bH e:TypeId} {x y:Operand} {it cw aG:bN} {dZ bU:Nat} {v:af} {dk:bM} (aw:guardOf ops env o=some true) (ax:o.dst=some d) (aW:t6 d N=true)
  (ah:o.op = .call { callee := .builtin .append,args := #[x,y],argTypes := #[t,bH] }) (aN:Γ.get? t=some it) (bs:it.bG = .aC e) (cZ:Γ.get? bH=some cw) (dr:∀ k,cw.bG ≠ .int k)
  (bI:Γ.get? e=some aG) (U:aG.size=1) (dV:ac' aG.zero.cells.size aG.size=true) (ab:aL env x=some (.aC dZ [] .nil)) (ay:aL env y=some (.aC bU [v] dk)) (c8:bU=1) (dP:fa v=true) (aq:1*aG.bytes≤140737488355328)
  (h:∀ aX cf cs',cs'.length=cf→1≤cf→cs'.take 1=[v]→Ok s ((.own aX,.box e cs')::L)→aa P N ops l Q ((d,eu aX 1 cf)::env) (aT s ((.own aX,.box e cs')::L))):aa P N ops (o::l) Q env (aT s L):=by
 refine aa.op aw ax aW (a7.CW aP I ah aN bs cZ dr bI U dV ab ay c8 dP aq (X:=fun _ _=>False)) ?_ (fun _ _ h=>h.elim);rintro r al ⟨aX,cf,cs',rfl,rfl,ae,an,bd,bD⟩;exact h aX cf cs' an bd bD ae
theorem aa.CX (aP:bQ P Γ) (I:Ok s L) {t bH e:TypeId} {x y:Operand} {it cw aG:bN} {b n cap bU:Nat} {cs:List af} {v:af} {dk:bM} (aw:guardOf ops env o=some true) (ax:o.dst=some d) (aW:t6 d N=true)
  (ah:o.op = .call { callee := .builtin .append,args := #[x,y],argTypes := #[t,bH] }) (aN:Γ.get? t=some it) (bs:it.bG = .aC e) (cZ:Γ.get? bH=some cw) (dr:∀ k,cw.bG ≠ .int k)
  (bI:Γ.get? e=some aG) (U:aG.size=1) (dV:ac' aG.zero.cells.size aG.size=true) (ab:aL env x=some (eu b n cap)) (au:bp L (.own b) (.box e cs) R) (ct:cs.length=cap) (az:n≤cap) (iC:(cs.take n).all fa=true)
  (ay:aL env y=some (.aC bU [v] dk)) (c8:bU=1) (dP:fa v=true) (aq:(n+1)*aG.bytes≤140737488355328) (er:n+1≤9223372036854775807)
  (h:∀ aX cf cs',cs'.length=cf→n+1≤cf→cs'.take (n+1)=cs.take n++[v]→Ok s ((.own aX,.box e cs')::R)→aa P N ops l Q ((d,eu aX (n+1) cf)::env) (aT s ((.own aX,.box e cs')::R))):aa P N ops (o::l) Q env (aT s L):=by
 refine aa.op aw ax aW (a7.CX aP I ah aN bs cZ dr bI U dV ab au ct az iC ay c8 dP aq er (X:=fun _ _=>False)) ?_ (fun _ _ h=>h.elim);rintro r al ⟨aX,cf,cs',rfl,rfl,ae,an,bd,bD⟩;exact h aX cf cs' an bd bD ae
theorem dz.uG {B:fP} {ro:Option Nat} {a:Act} {w:World} {p:bT} (h:dz N B ro env s a w p) {t b n cap:Nat} {T:TypeId} {cs:List af} (aN:env.get? t=some (eu b n cap)) (au:s b=some (.box T cs)) (ct:cs.length=cap) (az:n≤cap) (hm:n≤9223372036854775807)
  (iC:(cs.take n).all fa=true):∃ bk,dz N B ro ((t,.aC 1 (cs.take n) .bc)::env) (s.del b) a w bk∧de w p w bk∧Kept s (s.del b) w p w bk:=by
 have Fq:dz N B ro ((a.tmps.size,.any)::[]) s a w p:=h.restrict _ (fun t v av=>by
  simp only [Env.get?] at av
  split at av
  ·cases av;exact .any _
  ·cases av)
 obtain ⟨vs,U,ae,an⟩:=h.wf.obj _ _ au;have ar:b<w.heap.size:=(i9.1 U).1;have hle:de w p w (p.ej b True):=⟨rfl,rfl,rfl,i0 _,fun _ _ h => .inl h,fun _ _ _=>rfl,fun _ _ h=>h⟩
 have aD:Kept s (s.del b) w p w (p.ej b True):=⟨fun _ _ _=>rfl,fun aX aq az=>by
  by_cases e:aX=b
  ·subst e;exact ao.nr _ _
  ·rw [ao.mN _ e];exact az,fun aX o aq az aE=>by
   rcases aE with aE|⟨rfl,_⟩
   ·exact aE
   ·rw [au] at az;cases az⟩
 have cd:dq w (p.ej b True) (s.del b):=by
  refine ⟨fun aX o aq=>?_,fun aX o aE=>by rcases aE with aE|⟨rfl,_⟩;exact h.wf.lt _ _ aE;exact ar⟩;by_cases e:aX=b
  ·subst e;rw [ao.nr] at aq;cases aq
  ·rw [ao.mN _ e] at aq
   have ah:=h.wf.obj aX o aq;have e9:∀ o,p.ej b True aX o↔p aX o:=fun o=>⟨fun aE=>by rcases aE with aE|⟨e',_⟩;exact aE;exact absurd e' e,.inl⟩
   cases o with
   | box t c=>obtain ⟨us,g1,g2,g3⟩:=ah;exact ⟨us,g1,g2.mono hle,fun o aE=>g3 o ((e9 o).1 aE)⟩
   | row t sz n=>obtain ⟨cur,g1,g2,g3,g4⟩:=ah;exact ⟨cur,g1,g2,g3,fun o=>(e9 o).trans (g4 o)⟩
   | map es=>obtain ⟨cM,c,g1,g2,g3⟩:=ah;exact ⟨cM,c,g1,⟨g2.1.mono hle,g2.2.mono hle⟩,g3⟩
   | ll es it l c=>exact ah.qm hle C C
   | tick m=>exact ah
   | loop r env=>exact ⟨ah.1,fun t v h=>(ah.2 t v h).mono hle⟩
 have aI:=h.step hle aD cd;refine ⟨_,⟨aI.size,fun bH v av=>?_,aI.wf,aI.defs,aI.round,aI.base⟩,hle,aD⟩;simp only [Env.get?] at av;split at av
 ·rename_i he
  have:=ac1 he;subst this;cases av;have aF:=h.env t _ aN;generalize a.tmps.getD t undef=dX at aF;cases aF;have hH:=ae.take n;have wB:=qs hH iC;have kx:=ti wB;refine .aC b 0 n cap 1 (vs.toList.take n) (cs.take n) .bc ba xI ?_ (hH.mono hle) (fun v av=>by rw [z8 (wB v av)];rfl) hm az (fun h=>by cases h) (fun b h=>by cases h);rw [kx];intro i v aQ;refine ⟨.inr ⟨rfl,trivial⟩,?_⟩;rw [ae4,jJ U];rw [af'] at aQ;split at aQ
  ·simpa using aQ
  ·cases aQ
 ·exact aI.env bH v av
theorem ad.uG {c:Code} (I:Ok s L) (t b:Nat) {n cap:Nat} {T:TypeId} {cs:List af} (aN:env.get? t=some (eu b n cap)) (au:bp L (.own b) (.box T cs) R) (ct:cs.length=cap) (az:n≤cap) (hm:n≤9223372036854775807) (iC:(cs.take n).all fa=true)
  (h:Ok s R→ad P N c Q ((t,.aC 1 (cs.take n) .bc)::env) (aT s R)):ad P N c Q env (aT s L):=by
 obtain ⟨U,ae⟩:=au.del I;intro tl B a w p eZ aI;obtain ⟨bk,an,bd,bD⟩:=aI.uG aN (au.get I) ct az hm iC;rw [U] at an bD;exact mc (h ae tl B a w bk eZ an) fun _ _ _ q=>q.after bd bD
end
section
open Go.Sort
variable {P:Program} {α:Type}
theorem Aa {w:World} {p:bT} (k:Nat):de w p (Sort.ahead w k) p:=⟨rfl,rfl,rfl,i0 _,fun _ _ h=>h,fun _ _ _=>rfl,fun _ _ h=>h⟩
theorem SX {w:World} {p:bT} {s:ao} (k:Nat) (h:dq w p s):dq (Sort.ahead w k) p s:=h.grow (Aa k) (fun _ _=>rfl) (fun _ _ _ h=>h) h.lt
theorem SY {w:World} {p:bT} {s:ao} (k:Nat):Kept s s w p (Sort.ahead w k) p:=⟨fun _ _ _=>rfl,fun _ _ h=>h,fun _ _ _ _ h=>h⟩
theorem FQ (w:World) (os:Array Obj) (b:Nat) (h:b<w.heap.size):(grow w os).heap[b]? = w.heap[b]?:=by
 show (w.heap++os)[b]? = _;rw [Array.getElem?_append_left h]
theorem Kq {w:World} {p:bT} (ar:∀ b o,p b o→b<w.heap.size) (os:Array Obj):de w p (grow w os) p:=
 de.of_heap C C C (by show w.heap.size≤(w.heap++os).size;simp) (fun _ _ h=>h) ar (fun b aq=>FQ w os b aq)
theorem SZ {w:World} {p:bT} {s:ao} (h:dq w p s) (os:Array Obj):dq (grow w os) p s:=
 h.grow (Kq h.lt os) (fun b aq=>FQ w os b aq) (fun _ _ _ h=>h) (fun b o aE=>ai7 (h.lt b o aE) (by show w.heap.size≤(w.heap++os).size;simp))
theorem S0 {w:World} {p:bT} {s:ao} (os:Array Obj):Kept s s w p (grow w os) p:=⟨fun b aq _=>FQ w os b aq,fun _ _ h=>h,fun _ _ _ _ h=>h⟩
theorem Kr {w:World} {p:bT} {enc:α→Value} {encA:α→af} (ae:∀ w p a,Rel w p (enc a) (encA a)):∀ l:List α,bF w p (l.map enc) (l.map encA)
 | [] => .nil
 | a::l => .cons _ _ _ _ (ae w p a) (Kr ae l)
theorem Ks {w:World} {p:bT} {enc:α→Value} {encA:α→af} (U:∀ w p v a,Rel w p v (encA a)→v=enc a):∀ {l:List α} {vs:List Value},bF w p vs (l.map encA)→vs=l.map enc
  | [],vs,h=>by cases h;rfl
  | a::l,vs,h=>by
    cases h with
    | cons v _ vs' _ av aN=>rw [U _ _ _ _ av,Ks U aN];rfl
variable [Inhabited α]
theorem bE.sort {f:FuncId} {enc:α→Value} {encA:α→af} {le:α→α→Bool} {e:TypeId} (aA:s6 P f) (U:∀ w p v a,Rel w p v (encA a)→v=enc a) (ae:∀ w p a,Rel w p (enc a) (encA a))
  (S1:∀ (rS off cap:Nat) (gw:List α) (w:World),Holds enc w rS off gw.toArray→rS<w.heap.size→gw.length<4611686018427387904→Calls P f #[.slice (some ⟨rS,off,none⟩) gw.length cap] w fun e w'=>e = .returned (.tuple #[])∧∃ n os,w'=grow (putRow enc (Sort.ahead w n) rS off (gw.mergeSort le).toArray) os)
  (b cap:Nat) (gw:List α) (rest:List af) (aB:gw.length<4611686018427387904) :
  bE P f [eu b gw.length cap] [(.own b,.box e (gw.map encA++rest))] (fun o K=>o = .ret (.cu [])∧K=[(.own b,.box e ((gw.mergeSort le).map encA++rest))]):=by
 intro s I;refine ⟨aA,fun w p vs cd eR=>?_⟩;cases eR with
 | cons v _ vs' _ av aN=>
 cases aN;cases av;obtain ⟨cur,c7,dh,e3⟩:=cd.obj b _ (ao.gu _ _ _);have ar:b<w.heap.size:=(i9.1 c7).1;have ct:cur.toList=gw.map enc++cur.toList.drop gw.length:=by
  have an:=dh.take gw.length;rw [ag4 ba,af0 (l:=gw.map encA) ba] at an;rw [← Ks U an,ag5]
 have hD:gw.length≤cur.size:=by
  have:=dh.length;rw [ac7] at this;rw [this];simp
 have FR:Holds enc w b 0 gw.toArray:=by
  intro j aK;have FT:j<gw.length:=by simpa using aK
  refine ⟨?_,by simp [World.frozen?,c7]⟩;rw [ae4,jJ c7,← ar',ct,ad6 (by simpa using FT),ad2,g6 FT];simp [FT]
 refine Calls.mono (S1 b 0 cap gw w FR ar aB) ?_;rintro CY w' ⟨rfl,k,os,rfl⟩;refine ⟨by simp,.ret (.cu []),aT s [(.own b,.box e ((gw.mergeSort le).map encA++rest))],p,.cu #[] [] .nil,⟨_,rfl,I,rfl,rfl⟩,?_⟩;have im:(gw.mergeSort le).length=gw.length:=List.length_mergeSort gw;have zM:putRow enc (Sort.ahead w k) b 0 (gw.mergeSort le).toArray=(Sort.ahead w k).setRow b ((gw.mergeSort le).map enc++cur.toList.drop gw.length).toArray:=by
  unfold putRow mapBlock World.setRow;congr 1;refine at3 fun i=>?_
  rw [al6,al6];by_cases e:b=i
  ·subst e
   rw [f9 C,f9 C];show (w.heap[b]?).map _=(w.heap[b]?).map _;rw [c7];simp only [al9,onCells];congr 2;refine at3 fun j=>?_
   simp only [putCells,Array.getElem?_mapIdx,g7,true_and,ae4,ak7,im,az'];rw [← ar',← ar'];by_cases aK:j<gw.length
   ·rw [ad6 (by rw [f6,im];exact aK),ad2,g6 (l:=gw.mergeSort le) (by rw [im];exact aK)]
    have:j<cur.toList.length:=by rw [ac7];omega
    rw [g6 this];simp [aK,im]
   ·rw [ad5 (by rw [f6,im];omega),f6,im,as']
    rw [show gw.length+(j-gw.length)=j by omega];cases cur.toList[j]? with
    | none=>rfl
    | some y=>simp [aK]
  ·rw [d9 e,d9 e]
 rw [zM];have hh:bF w p (((gw.mergeSort le).map enc++cur.toList.drop gw.length).toArray).toList ((gw.mergeSort le).map encA++rest):=by
  refine bF.append (Kr ae _) ?_;have:=dh.drop gw.length;rwa [List.drop_append_of_le_length ba,List.drop_of_length_le (l:=gw.map encA) ba,d8] at this
 have di:=SX k cd;have cj:(aT s [(.own b,.box e (gw.map encA++rest))]) b=some (.box e (gw.map encA++rest)):=ao.gu _ _ _
 obtain ⟨df,kl,iG⟩:=vM di cj (vs':=((gw.mergeSort le).map enc++cur.toList.drop gw.length).toArray) (cs':=(gw.mergeSort le).map encA++rest) (fun z' br=>by
  have Kt:w.heap[b]? = some (.cells z' e (0,0)):=br
  rw [c7] at Kt;cases Kt
  simp only [ak7,f8,f6,im,ag2,ac7]
  omega) (hh.mono (Aa k)) _ C
 rw [show (aT s [(.own b,.box e (gw.map encA++rest))]).set b (.box e ((gw.mergeSort le).map encA++rest))=aT s [(.own b,.box e ((gw.mergeSort le).map encA++rest))] from ao.set_set _ _ _ _] at kl iG;refine ⟨((Aa k).trans df).trans (Kq iG.lt os),((SY k).trans (Aa (p:=p) k).size kl).trans ((Aa k).trans df).size (S0 os),SZ iG os⟩
end
section
variable {P:Program} {Γ:cz} {N:Nat} {ops:Array Oper} {Q:b8→Env→ao→Prop} {env:Env} {s:ao} {l:List Oper} {o:Oper} {d:Nat} {L R dx:a'}
end
section
variable {P:Program} {Γ:cz} {N:Nat} {env:Env} {s:ao}
variable {ops:Array Oper} {l:List Oper} {Q:b8→Env→ao→Prop} {o:Oper} {d m:Nat}
end
theorem bf.ds {P:Program} {Γ:cz} {N:Nat} {ops:Array Oper} {Q:b8→Env→ao→Prop} {D:Nat→Bool} {env:Env} {s:ao} (t:Nat) {b:Bool} (av:env.get? t=some (.bool b)) (he:b=true)
  (h:bf P Γ N ops Q D ((t,.bool true)::env) s):bf P Γ N ops Q D env s:=by
 subst he;refine bf.congr _ (fun x=>?_) h;show (if ac' t x then _ else _)=_;split
 ·rename_i ab
  rw [← av,ac1 ab]
 ·rfl
theorem bf.c2 {P:Program} {Γ:cz} {N:Nat} {ops:Array Oper} {Q:b8→Env→ao→Prop} {D:Nat→Bool} {env:Env} {s:ao} (t:Nat) {b:Bool} (av:env.get? t=some (.bool b)) (he:b=false)
  (h:bf P Γ N ops Q D ((t,.bool false)::env) s):bf P Γ N ops Q D env s:=by
 subst he;refine bf.congr _ (fun x=>?_) h;show (if ac' t x then _ else _)=_;split
 ·rename_i ab
  rw [← av,ac1 ab]
 ·rfl
section
variable {P:Program} {Γ:cz} {N:Nat} {Q:b8→Env→ao→Prop} {env:Env} {s:ao} {l:List Oper} {m:Nat}
theorem bf.Fz (aP:bQ P Γ) {i:Nat} {o:Oper} {d:Nat} {t bH e:TypeId} {x y:Operand} {it cw aG:bN} {dZ bU n:Nat} {xs ys:List af} {own dk:bM} (aF:eI l.toArray m (idxs 0 l)=[i]) (ah:l.toArray[i]? = some o) (ax:o.dst=some d) (aW:t6 d N=true)
  (aw:c9 l env o) (b5:o.op = .call { callee := .builtin .append,args := #[x,y],argTypes := #[t,bH] }) (aN:Γ.get? t=some it) (bs:it.bG = .aC e) (cZ:Γ.get? bH=some cw) (dr:∀ k,cw.bG ≠ .int k)
  (bI:Γ.get? e=some aG) (ab:aL (b4 l env o) x=some (.aC dZ xs own)) (ay:aL (b4 l env o) y=some (.aC bU ys dk)) (hE:dZ=aG.size) (c8:ys=[]∨bU=aG.size)
  (dV:ac' aG.zero.cells.size aG.size=true) (dP:∀ y∈ys,kh aG.size y=true) (aq:(xs.length+ys.length)*aG.bytes≤140737488355328) (er:xs.length+ys.length≤9223372036854775807) (az:n=xs.length)
  {pO:ao} (au:pO=rowOf s e aG.size n own) (I:qF s n own)
  (h:∀ cQ,qF s (xs.length+ys.length) cQ→bf P Γ N l.toArray Q (bX (m|||2^i)) ((d,.aC aG.size (xs++ys) cQ)::env) (rowOf s e aG.size (xs.length+ys.length) cQ)):bf P Γ N l.toArray Q (bX m) env pO:=by
 subst au;subst az;refine bf.one aF ah ax aW aw (a7.Fz aP b5 aN bs cZ dr bI ab ay hE c8 dV dP aq er C I (X:=fun _ _=>False)) ?_ (fun _ _ h=>h.elim);rintro r al ⟨cQ,U,-,-,rfl,rfl⟩;exact h cQ U
end
theorem hi.args {P:Program} {f:FuncId} {xs ys:List af} {s:ao} {R:eB→ao→Prop} (aB:cR xs ys) (h:hi P f ys s R):hi P f xs s R:=
 ⟨h.1,fun w p vs cd aF=>h.2 w p vs cd (aB.rel aF)⟩
theorem bE.args {P:Program} {f:FuncId} {xs ys:List af} {K:a'} {acv:eB→a'→Prop} (h:cR xs ys) (k:bE P f ys K acv):bE P f xs K acv:=fun s I=>hi.args h (k s I)
theorem aR.args {P:Program} {f:FuncId} {xs ys:List af} {v:af} (h:cR xs ys) (k:aR P f ys v):aR P f xs v:=fun s=>hi.args h (k s)
theorem n5 {Γ:cz} {env:Env} {s:ao} {a b:Nat} {t T:TypeId} {i:bN} {cs:List af} {v:af} (he:env.get? a=some (.ptr b 0)) (aQ:Γ.get? t=some i) (au:s b=some (.box T cs)) (aB:hO i cs 0=some v) :
  nZ Γ env s [.cell a t]=some v:=by simp [nZ,vY,zJ,he,aQ,au,aB]
theorem rT {Γ:cz} {env:Env} {s:ao} {a b c:Nat} {t T:TypeId} {i:bN} {cs:List af} {v u:af} (he:env.get? a=some (.ptr b 0)) (aQ:Γ.get? t=some i) (au:s b=some (.box T cs)) (aB:hO i cs 0=some v) (aA:env.get? c=some u) :
  nZ Γ env s [.cell a t,.tmp c]=some (.cu [v,u]):=by simp [nZ,vY,zJ,he,aQ,au,aB,aA]
theorem aa.h2 {P:Program} {N:Nat} {ops:Array Oper} {Q:b8→Env→ao→Prop} {env:Env} {s:ao} {l:List Oper} {L:a'} (I:Ok s L) (e:TypeId) (sz n:Nat) (h:Ok s ((.nil,.row e sz n)::L)→aa P N ops l Q env (aT s ((.nil,.row e sz n)::L))):aa P N ops l Q env (aT s L):=h ⟨trivial,I⟩
theorem ad.h2 {P:Program} {N:Nat} {Q:b8→Env→ao→Prop} {env:Env} {s:ao} {c:Code} {L:a'} (I:Ok s L) (e:TypeId) (sz n:Nat) (h:Ok s ((.nil,.row e sz n)::L)→ad P N c Q env (aT s ((.nil,.row e sz n)::L))):ad P N c Q env (aT s L):=h ⟨trivial,I⟩
def Ku (P:Program) {α:Type} (bJ:α→af) (l:Nat) (Go:List α→a'→Prop) (fD:a'→Prop) (fJ:af→a'→Prop):Prop:=
 ∀ x rem K,Go (x::rem) K→dt P (lR l) [bJ x] K (fun o aO=>(o = .ret (.bool true)∧Go rem aO)∨(o = .ret (.bool false)∧fD aO)∨∃ v,o = .panic v∧fJ v aO)
def x9 (P:Program) (f:FuncId) (first cap:List af) (mZ:a') {α:Type} (bJ:α→af) (xs:List α):Prop:=
 ∀ (l:Nat) (Go:List α→a'→Prop) (fD:a'→Prop) (fJ:af→a'→Prop),Ku P bJ l Go fD fJ→∀ K,Go xs K →
  bE P f (first++([lR l]++cap)) (mZ++K) (fun o aO=>(o = .ret (.cu [])∧(Go [] aO∨fD aO))∨∃ v,o = .panic v∧fJ v aO)
theorem aH.du:∀ L:a',aH L L []
 | [] => .nil
 | (_,_)::L => .cons .here (aH.du L)
theorem aH.there {L K R:a'} {e:bM×dG} (h:aH L K R):aH (e::L) K (e::R):=by
 induction h with
 | nil=>exact .nil
 | cons h t a6=>exact .cons (.there h) a6
theorem aH.app {L K R aO dx:a'} (h:aH L K R) (eX:aH R aO dx):aH L (K++aO) dx:=by
 induction h with
 | nil=>exact eX
 | cons h t a6=>exact .cons h (a6 eX)
theorem bp.app {L R:a'} {k:bM} {o:dG}:∀ (K:a'),bp L k o R→bp (K++L) k o (K++R)
 | [],h=>h
 | _::K,h => .there (bp.app K h)
theorem bp.S2 {L R:a'} {k:bM} {o:dG} (h:bp L k o R) (M:a'):bp (L++M) k o (R++M):=by
 induction h with
 | here=>exact .here
 | there h a6=>exact .there a6
theorem aH.jx {L K dx R:a'} (h:aH L K dx):aH (L++R) K (dx++R):=by
 induction h with
 | nil=>exact .nil
 | cons h t a6=>exact .cons (h.S2 _) a6
def At (s:ao) (acW:a'→Prop) (al:ao):Prop:=∃ L K R,al=aT s L∧Ok s L∧aH L K R∧acW K
theorem At.mk {s:ao} {acW:a'→Prop} {L R:a'} (K:a') (I:Ok s L) (au:aH L K R) (ak:acW K):At s acW (aT s L):=⟨L,K,R,rfl,I,au,ak⟩
theorem hT.less {P:Program} {fv:af} {args:List af} {s:ao} {R dx:eB→ao→Prop} (h:hT P fv args s R) (aF:∀ o al,R o al→∃ eK,ao.Sub eK al∧dx o eK):hT P fv args s dx:=by
 intro w p v vs cd av eL;refine (h w p v vs cd av eL).mono ?_;rintro e w' ⟨o,al,bk,U,ae,an,bd,bD⟩;obtain ⟨eK,cA,db⟩:=aF o al ae;exact ⟨o,eK,bk,U,db,an,bd.sub cA,bD.sub cA⟩
section
variable {P:Program} {N:Nat} {Q:b8→Env→ao→Prop} {env:Env} {s:ao} {L R:a'}
theorem ad.FU {α:Type} {bJ:α→af} {xs:List α} {t:Tmp} {g:Operand} {hf body:Code} {f:FuncId} {first cap:List af} {mZ:a'} (I:Ok s L) (aw:aL env g=some (.func f first cap)) (aW:t<N)
  (n6:x9 P f first cap mZ bJ xs) (au:aH L mZ R) (acW:List α→a'→Prop) (J:Code→a'→Prop) (tm:af→a'→Prop) (br:acW xs R)
  (sM:∀ s x rem K,acW (x::rem) K→Ok s K→ad P N hf (b8.andThen (ad P N body (CE (At s (acW rem)) (fun j=>At s (J j)) (fun v=>At s (tm v)))) (fun _ _ _=>False)) ((t,bJ x)::env) (aT s K))
  (az:∀ K,acW [] K→Ok s K→Q .normal env (aT s K))
  (aK:∀ j K,J j K→Ok s K→ad P N j Q env (aT s K))
  (ab:∀ v K,tm v K→Ok s K→Q (.panic v) env (aT s K)):ad P N (.rangeFunc g #[t] hf body) Q env (aT s L):=by
 refine ad.J4 aw (by intro bH cZ;simp at cZ;subst cZ;exact aW) fun l r aB FV=>?_
 have FW:Ok s ((.own l,.loop r env)::L):=⟨aB,I⟩;have oY:Ku P bJ l (fun rem K=>∃ aO,K=(.own l,.loop r env)::aO∧acW rem aO) (fun K=>∃ j aO,K=(.own l,.loop (qE r j) env)::aO∧J j aO) (fun v K=>∃ aO,K=(.own l,.loop (busy r) env)::aO∧tm v aO):=by
  rintro x rem _ ⟨K,rfl,ak⟩ al Ab;refine (FV [bJ x] _ (At al (acW rem)) (fun j=>At al (J j)) (fun v=>At al (tm v)) (ao.gu _ _ _) C ?_).less ?_
  ·have:=ao.zy (aT al K) l (.loop r env) Ab.1
   show ad P N hf _ _ (((aT al K).set l (.loop r env)).del l);rw [this];exact sM al x rem K ak Ab.2
  ·have key:∀ {L K R:a'} {o:dG},aT al L l=none→Ok al L→aH L K R→ao.Sub (aT al ((.own l,o)::K)) ((aT al L).set l o)∧Ok al ((.own l,o)::K):=by
    intro L K R o U ae an;exact (aH.cons bp.here an).sub (L:=(.own l,o)::L) ⟨U,ae⟩
   rintro o eK (⟨rfl,dN,U,rfl,L,aO,R,rfl,ae,bd,an⟩|⟨rfl,j,dN,U,rfl,L,aO,R,rfl,ae,bd,an⟩|⟨v,dN,rfl,U,rfl,L,aO,R,rfl,ae,bd,an⟩)
   ·obtain ⟨cA,db⟩:=key U ae bd (o := .loop r env)
    exact ⟨_,cA,(.own l,.loop r env)::aO,rfl,db,.inl ⟨rfl,aO,rfl,an⟩⟩
   ·obtain ⟨cA,db⟩:=key U ae bd (o := .loop (qE r j) env)
    exact ⟨_,cA,(.own l,.loop (qE r j) env)::aO,rfl,db,.inr (.inl ⟨rfl,j,aO,rfl,an⟩)⟩
   ·obtain ⟨cA,db⟩:=key U ae bd (o := .loop (busy r) env)
    exact ⟨_,cA,(.own l,.loop (busy r) env)::aO,rfl,db,.inr (.inr ⟨v,rfl,aO,rfl,an⟩)⟩
 have c1:=(n6 l _ _ _ oY _ ⟨R,rfl,br⟩).at FW ((au.there (e:=(.own l,.loop r env))).app (aH.du _));refine c1.mono ?_;rintro o eK ⟨M,rfl,iR,aO,rfl,h⟩;rw [d7] at iR ⊢;rcases h with ⟨rfl,⟨mu,rfl,h⟩|⟨j,mu,rfl,h⟩⟩|⟨v,rfl,mu,rfl,h⟩
 ·exact .inl ⟨aT s mu,iR.1,rfl,az mu h iR.2⟩
 ·exact .inr ⟨j,aT s mu,iR.1,rfl,aK j mu h iR.2⟩
 ·exact ⟨aT s mu,_,iR.1,rfl,ab v mu h iR.2⟩
end
section
variable {P:Program} {Γ:cz} {N:Nat} {l:List Oper} {Q:b8→Env→ao→Prop} {env:Env} {s:ao} {m d:Nat} {o:Oper} {L K R:a'} {acv:eB→a'→Prop}
theorem bf.b9 (i:Nat) {f:FuncId} {fS:Array Operand} {c0:Array TypeId} {xs:List af} (aF:eI l.toArray m (idxs 0 l)=[i]) (ah:l.toArray[i]? = some o) (ax:o.dst=some d) (aW:t6 d N=true)
  (aw:c9 l env o) (b5:o.op = .call { callee := .value (.func f),args:=fS,argTypes:=c0 }) (a8:fQ (b4 l env o) fS.toList=some xs) (h:bE P f xs K acv) (I:Ok s L) (au:aH L K R)
  (aD:∀ x aO,acv (.ret x) aO→Ok s (aO++R)→bf P Γ N l.toArray Q (bX (m|||2^i)) ((d,x)::env) (aT s (aO++R))) (ab:∀ x aO,acv (.panic x) aO→Ok s (aO++R)→Q (.panic x) [] (aT s (aO++R))):bf P Γ N l.toArray Q (bX m) env (aT s L):=
 bo.b9 aF ah ax aW aw b5 a8 h I au (fun _ _ _ _ => .inl trivial) aD ab
theorem bo.S3 {J:ao→Prop} (i:Nat) (aP:bQ P Γ) (cD:J s) {t:TypeId} {x:Operand} {ee:bN} {b off:Nat} {v:af} (aF:iF l.toArray m i=true) (ah:l.toArray[i]? = some o) (ax:o.dst=some d) (aW:t6 d N=true)
  (aw:c9 l env o) (b5:o.op = .load t x) (aN:Γ.get? t=some ee) (ab:aL (b4 l env o) x=some (.ptr b off)) (au:∀ s,J s→∃ T cs,s b=some (.box T cs)∧hO ee cs off=some v)
  (h:bo J P Γ N l.toArray Q (bX (m|||2^i)) ((d,v)::env) s):bo J P Γ N l.toArray Q (bX m) env s:=
 bo.rM cD aF ah ax aW aw (fun s hG=>by obtain ⟨T,cs,U,ae⟩:=au s hG;exact a7.um aP b5 aN ab U ae) h
end
section
variable {P:Program} {N:Nat} {Q:b8→Env→ao→Prop} {env:Env} {s:ao} {L:a'}
def CZ {σ:Type} (s:ao) (E:σ→Env) (K:σ→a') (acW:σ→Prop) (Q:b8→Env→ao→Prop):b8→Env→ao→Prop
 | .normal,eT,al=>∃ y n2 dx,acW y∧Env.Sub (E y) eT∧al=aT s n2∧Ok s n2∧aH n2 (K y) dx
 | e,eT,al=>Q e eT al
theorem CZ.mk {σ:Type} {E:σ→Env} {K:σ→a'} {acW:σ→Prop} (y:σ) {dx:a'} (I:Ok s L) (ak:acW y) (dH:Env.Sub (E y) env) (cj:aH L (K y) dx):CZ s E K acW Q .normal env (aT s L):=⟨y,L,dx,ak,dH,rfl,I,cj⟩
theorem ad.S4 {σ:Type} {x y:Code} {oJ:b8→Env→ao→Prop} (E:σ→Env) (K:σ→a') (acW:σ→Prop) (wo:ad P N x (CZ s E K acW oJ) env (aT s L)) (wq:∀ z,acW z→Ok s (K z)→ad P N y Q (E z) (aT s (K z))) :
  ad P N x (b8.andThen (ad P N y Q) oJ) env (aT s L):=by
 refine wo.mono ?_;intro e eT al h;cases e with
 | normal=>
  obtain ⟨z,n2,dx,g1,g2,rfl,g3,g4⟩:=h;obtain ⟨cA,db⟩:=g4.sub g3;exact ad.sub _ g2 (ad.drop _ cA (wq z g1 db))
 | exit id=>exact h
 | ret=>exact h
 | panic v=>exact h
end
section
variable {P:Program} {N:Nat} {ops:Array Oper} {Q:b8→Env→ao→Prop} {env:Env} {s:ao} {l:List Oper} {o:Oper} {d:Nat}
theorem a7.rem {t yt:TypeId} {x y:Operand} {k:IntKind} {a b r:Int} (ah:o.op = .binOp .rem t x y yt) (ab:aL env x=some (.int k a)) (ay:aL env y=some (.int k b)) (aq:b≠0) (aF:a.tmod b=r) :
  a7 P N o env s (fun x al=>x = .int k r∧al=s) (fun _ _=>False):=by
 refine a7.nn jf fun ro B da w p aI=>?_
 have U:=aI.aL ab;have ae:=aI.aL ay;generalize eA:da.eval x=dX at U;generalize ff:da.eval y=ga at ae;cases U;cases ae;refine ur (v := .int k r) ah ?_ ?_ (.int _ _)
 ·rw [eA,ff];unfold eqGuard;simp
 ·rw [eA,ff]
  simp only [binOp,ne_eq,not_true_eq_false,if_false,Op.intDiv,aq,aF];rfl
theorem aa.rem {t yt:TypeId} {x y:Operand} {k:IntKind} {a b r:Int} (aw:guardOf ops env o=some true) (ax:o.dst=some d) (aW:t6 d N=true) (ah:o.op = .binOp .rem t x y yt) (ab:aL env x=some (.int k a)) (ay:aL env y=some (.int k b)) (aq:b≠0) (aF:a.tmod b=r)
  (h:aa P N ops l Q ((d,.int k r)::env) s):aa P N ops (o::l) Q env s:=
 aa.op aw ax aW (a7.rem ah ab ay aq aF) (fun x al ⟨U,ae⟩=>by subst U;subst ae;exact h) (fun _ _ h=>h.elim)
end
theorem FX {P:Program} {cs:List Frame} (T:List Deferred):∀ (cc:List Nat) (hg:Frame) (w:World),hg.mode ≠ .run→hg.defers=marksOf cc++T →
  (∀ d∈cc,w.heap[d]? = some (.deferred (some [])))→cc.Nodup→Steps P (lone hg cs w) (lone { hg with defers:=T } cs (hq w cc)):=by
 intro cc
 induction cc with
 | nil=>
  intro hg w _ ax _ _;have:({ hg with defers:=T }:Frame)=hg:=by cases hg;simp_all [marksOf]
  rw [this];exact .refl P _
 | cons d cc a6=>
  intro hg w hm ax aq az;have ni:w.heap[d]? = some (.deferred (some [])):=aq d (i7 ..);have aN:(Instr.takeDeferred d).run P w = .ok [] { w with heap:=w.heap.setIfInBounds d (.deferred none) }:=by
   unfold Instr.takeDeferred;simp only [aa',getObj,setObj,Sem.run,ni,Result.andThen];rfl
  have U:step P (lone hg cs w) = .next (lone { hg with defers:=marksOf cc++T } cs { w with heap:=w.heap.setIfInBounds d (.deferred none) }):=by
   refine step_lone_go ?_;cases vx:hg.mode with
   | run=>exact absurd vx hm
   | returning=>simp [stepG,unwind,vx,ax,marksOf,ar9,aN]
   | panicking chain=>simp [stepG,unwind,vx,ax,marksOf,ar9,aN]
  have eY:=List.nodup_cons.1 az;refine .head U (a6 { hg with defers:=marksOf cc++T } _ hm C ?_ eY.2);intro c6 cm;have cO:d≠c6:=fun e=>eY.1 (e ▸ cm)
  simp only [Array.getElem?_setIfInBounds,cO,if_false];exact aq c6 (i5 _ cm)
def S5 (P:Program) (fn:Func) (R:Ending→World→Prop) (T:List Deferred):hb→Act→World→Prop
 | .normal,a,w | .ret,a,w=>∃ cc,a.defers=marksOf cc++T∧cc.Nodup∧(∀ d∈cc,w.heap[d]? = some (.deferred (some [])))∧Leaves P fn a.tmps R T .returning (hq w cc)
 | .panic dF,a,w=>∃ cc,a.defers=marksOf cc++T∧cc.Nodup∧(∀ d∈cc,w.heap[d]? = some (.deferred (some [])))∧Leaves P fn a.tmps R T (.panicking dF) (hq w cc)
 | .exit _,_,_=>False
theorem Kv {P:Program} {f:FuncId} {fn:Func} {C0 fs rest:Code} {args:Array Value} {w:World} {R:Ending→World→Prop} {T:List Deferred}
  (aZ:P.funcs[f]? = some fn) (aq:fn.body=some (.seq C0 (.seq fs rest)))
  (h:C0.wp P (fun e a w=>e = .normal∧fs.wp P (fun e a w=>e = .normal∧∀ b:Frame,b.roundOf=none→b.fn=f→jT P b rest (S5 P fn R T) a w) a w) { tmps:=args++ai9 (fn.ntmps-args.size) undef,defers:=[] } w) :
  Calls P f args w R:=by
 intro cs
 let b:Frame:={ (default:Frame) with fn:=f,kind := .normal,roundOf:=none }
 have sL:Frame.enter P f args .normal =
   b.at { tmps:=args++ai9 (fn.ntmps-args.size) undef,defers:=[] } [.code (.seq C0 (.seq fs rest))]:=by
  simp [Frame.enter,Frame.at,aZ,aq,b]
 obtain ⟨jI,a0,lZ,⟨rfl,U⟩,S6⟩:=h b [.code (.seq fs rest)] cs;obtain ⟨cb,di,df,⟨rfl,ae⟩,s1⟩:=U b [.code rest] cs;have S7:Steps P (lone (b.at { tmps:=args++ai9 (fn.ntmps-args.size) undef,defers:=[] } [.code C0,.code (.seq fs rest)]) cs w) (lone (b.at a0 [.code (.seq fs rest)]) cs lZ):=S6;have S8:Steps P (lone (b.at a0 [.code fs,.code rest]) cs lZ) (lone (b.at di [.code rest]) cs df):=s1;have pz:Steps P (lone (Frame.enter P f args .normal) cs w) (lone (b.atR di [.code rest]) cs df):=by
  rw [sL,Frame.atR_of_none C];exact .head step_seq (S7.trans (.head step_seq S8))
 obtain ⟨e,da,w',bq,f'⟩:=ae b rfl rfl [] cs;cases e with
 | normal=>
  obtain ⟨cc,ax,az,lj,bK⟩:=bq;have au:=Steps.trans (Steps.trans pz f') (Steps.trans (.one (stepR_end C)) (FX T cc { b.atR da [] with mode := .returning } w' ba ax lj az));obtain ⟨e',me,Ac,ed,hG,eZ,aB⟩:=leaves_steps T .returning _ { b.atR da [] with mode := .returning,defers:=T } cs rfl rfl rfl aZ rfl bK;exact ⟨e',me,Ac,ed,Comes.of_steps au hG,eZ,aB⟩
 | ret=>
  obtain ⟨cc,ax,az,lj,bK⟩:=bq;obtain ⟨k₁,au⟩:=f';have au:=Steps.trans (Steps.trans pz au) (Steps.trans (.one (stepR_ret C)) (FX T cc { b.atR da (.code .ret::k₁) with mode := .returning } w' ba ax lj az));obtain ⟨e',me,Ac,ed,hG,eZ,aB⟩:=leaves_steps T .returning _ { b.atR da (.code .ret::k₁) with mode := .returning,defers:=T } cs rfl rfl rfl aZ rfl bK;exact ⟨e',me,Ac,ed,Comes.of_steps au hG,eZ,aB⟩
 | panic dF=>
  obtain ⟨cc,ax,az,lj,bK⟩:=bq;obtain ⟨k₁,au⟩:=f';have au:=Steps.trans (Steps.trans pz au) (FX T cc { b.atR da k₁ with mode := .panicking dF } w' ba ax lj az);obtain ⟨e',me,Ac,ed,hG,eZ,aB⟩:=leaves_steps T (.panicking dF) _ { b.atR da k₁ with mode := .panicking dF,defers:=T } cs rfl rfl rfl aZ rfl bK;exact ⟨e',me,Ac,ed,Comes.of_steps au hG,eZ,aB⟩
 | exit id=>exact bq.elim
section
variable {P:Program} {Γ:cz} {N:Nat} {l:List Oper} {Q:b8→Env→ao→Prop} {env:Env} {s:ao} {m d:Nat} {o:Oper} {L K R:a'} {acv:eB→a'→Prop}
theorem bf.jw (i:Nat) (aP:bQ P Γ) (I:Ok s L) {t dY e0:TypeId} {x y:Operand} {ok:Bool} {it gL aG:bN} {mb:Nat} {es:List (af×af)} {k z:af} {r:Option af} (aF:eI l.toArray m (idxs 0 l)=[i]) (ah:l.toArray[i]? = some o) (ax:o.dst=some d) (aW:t6 d N=true)
  (aw:c9 l env o) (b5:o.op = .lookup t x y ok) (aN:Γ.get? t=some it) (bs:it.bG = .map dY e0) (h0:Γ.get? dY=some gL) (bI:Γ.get? e0=some aG) (ab:aL (b4 l env o) x=some (.map mb)) (ay:aL (b4 l env o) y=some k) (au:bp L (.own mb) (.map es) R)
  (aZ:kf gL.bG k=true) (jr:jb es k=some r) (bO:hC aG.zero=some z) (h:bf P Γ N l.toArray Q (bX (m|||2^i)) ((d,lP ok z r)::env) (aT s L)):bf P Γ N l.toArray Q (bX m) env (aT s L):=
 bf.one aF ah ax aW aw (a7.jw aP I b5 aN bs h0 bI ab ay au aZ jr bO (X:=fun _ _=>False)) (fun x al ⟨U,ae⟩=>by subst U;subst ae;exact h) (fun _ _ h=>h.elim)
theorem bf.gM (i:Nat) {g:Operand} {fv:af} {fS:Array Operand} {c0:Array TypeId} {xs:List af} (aF:eI l.toArray m (idxs 0 l)=[i]) (ah:l.toArray[i]? = some o) (ax:o.dst=some d) (aW:t6 d N=true)
  (aw:c9 l env o) (b5:o.op = .call { callee := .value g,args:=fS,argTypes:=c0 }) (av:aL (b4 l env o) g=some fv) (a8:fQ (b4 l env o) fS.toList=some xs) (h:dt P fv xs K acv) (I:Ok s L) (au:aH L K R)
  (aD:∀ x aO,acv (.ret x) aO→Ok s (aO++R)→bf P Γ N l.toArray Q (bX (m|||2^i)) ((d,x)::env) (aT s (aO++R))) (ab:∀ x aO,acv (.panic x) aO→Ok s (aO++R)→Q (.panic x) [] (aT s (aO++R))):bf P Γ N l.toArray Q (bX m) env (aT s L):=
 bo.gM aF ah ax aW aw b5 av a8 h I au (fun _ _ _ _ => .inl trivial) aD ab
end
section
variable {P:Program} {N:Nat} {ops:Array Oper} {Q:b8→Env→ao→Prop} {env:Env} {s:ao} {l:List Oper} {L R:a'}
theorem fH.uG {is:List Nat} (t b:Nat) {n cap:Nat} {T:TypeId} {cs:List af} (aN:env.get? t=some (eu b n cap)) (au:s b=some (.box T cs)) (ct:cs.length=cap) (az:n≤cap) (hm:n≤9223372036854775807) (iC:(cs.take n).all fa=true)
  (h:fH P N ops is Q ((t,.aC 1 (cs.take n) .bc)::env) (s.del b)):fH P N ops is Q env s:=by
 intro ro B a w p aI;obtain ⟨bk,hR,hle,aD⟩:=aI.uG aN au ct az hm iC;exact fH.after hle aD h hR
theorem aa.uG (I:Ok s L) (t b:Nat) {n cap:Nat} {T:TypeId} {cs:List af} (aN:env.get? t=some (eu b n cap)) (au:bp L (.own b) (.box T cs) R) (ct:cs.length=cap) (az:n≤cap) (hm:n≤9223372036854775807) (iC:(cs.take n).all fa=true)
  (h:Ok s R→aa P N ops l Q ((t,.aC 1 (cs.take n) .bc)::env) (aT s R)):aa P N ops l Q env (aT s L):=by
 obtain ⟨U,ae⟩:=au.del I;intro k aD;refine fH.uG t b aN (au.get I) ct az hm iC ?_;rw [U];exact h ae k aD
end
section
variable {P:Program} {Γ:cz} {N:Nat} {ops:Array Oper} {Q:b8→Env→ao→Prop} {env:Env} {s:ao} {l:List Oper} {o:Oper} {d:Nat} {L R:a'}
theorem a7.fo (aP:bQ P Γ) {t e:TypeId} {x y:Operand} {it aG:bN} {b n cap:Nat} {k:IntKind} {i:Int} {j:Nat} (ah:o.op = .indexAddr t x y) (aN:Γ.get? t=some it) (bs:it.bG = .aC e) (bI:Γ.get? e=some aG)
  (ab:aL env x=some (eu b n cap)) (ay:aL env y=some (.int k i)) (eN:i=(j:Int)) (aK:j<n):a7 P N o env s (fun x al=>x = .ptr b (j*aG.size)∧al=s) (fun _ _=>False):=by
 refine a7.nn jf fun ro B a w p aI=>?_
 obtain ⟨info,d,U,ae,an,-⟩:=aP.parts aN;obtain ⟨jU,kA,cA,db,fe,eH,-⟩:=aP.parts bI;have ax:d = .slice e:=by rw [bs] at an;cases d<;>simp [ez] at an;rw [an]
 subst ax;have aF:=aI.aL ab;have jd:=aI.aL ay;generalize eA:a.eval x=dX at aF;generalize ff:a.eval y=ga at jd;cases jd;subst eN;cases aF;refine .same (val := .pointer (some ⟨b,j*aG.size,none⟩)) ?_ (.ptr b _);unfold execOp;rw [ah];simp only [eA,ff];refine gV ?_;have ar:(0:Int)≤(j:Int)∧(j:Int)<(n:Int):=by omega
 simp [Instr.indexAt,asIntOf,run_underlying ae,ar.2,sizeOf,typeInfo,cA,eH,lo];intro aV;omega
theorem FY {w:World} {p:bT} {sz:Nat}:∀ {xss:List (List af)} {us:List Value},bF w p us xss.flatten→(∀ cs∈xss,cs.length=sz)→∃ vs,bF w p vs (xss.map af.agg)∧flat vs=us∧∀ v∈vs,v.cells.size=sz
  | [],us,h,_=>by cases h;exact ⟨[],.nil,rfl,by simp⟩
  | cs::r,us,h,aB=>by
    rw [List.flatten_cons] at h;have ct:=aB cs i7;have U:=h.take cs.length;have ae:=h.drop cs.length;rw [List.take_left] at U;rw [List.drop_left] at ae;obtain ⟨vs,g1,g2,g3⟩:=FY ae fun x ab=>aB x (i5 _ ab)
    refine ⟨.agg (us.take cs.length).toArray::vs,.cons _ _ _ _ (.agg _ _ U) g1,?_,fun v av=>?_⟩
    · have:flat (Value.agg (us.take cs.length).toArray::vs)=us.take cs.length++flat vs:=by simp [flat,Value.cells]
      rw [this,g2,ag5]
    · rcases ad1.1 av with rfl|av
      · have:=U.length
        simp only [Value.cells,ak7];rw [this,ct]
      · exact g3 v av
theorem bo.fo {J:ao→Prop} (i:Nat) (aP:bQ P Γ) (cD:J s) {m:Nat} {t e:TypeId} {x y:Operand} {it aG:bN} {b n cap:Nat} {k:IntKind} {z:Int} {j:Nat} (aF:iF l.toArray m i=true) (aQ:l.toArray[i]? = some o) (ax:o.dst=some d) (aW:t6 d N=true)
  (aw:c9 l env o) (ah:o.op = .indexAddr t x y) (aN:Γ.get? t=some it) (bs:it.bG = .aC e) (bI:Γ.get? e=some aG)
  (ab:aL (b4 l env o) x=some (eu b n cap)) (ay:aL (b4 l env o) y=some (.int k z)) (eN:z=(j:Int)) (aK:j<n)
  (h:bo J P Γ N l.toArray Q (bX (m|||2^i)) ((d,.ptr b (j*aG.size))::env) s):bo J P Γ N l.toArray Q (bX m) env s:=
 bo.rM cD aF aQ ax aW aw (fun _ _=>a7.fo aP ah aN bs bI ab ay eN aK) h
end
section
variable {P:Program} {Γ:cz} {N:Nat} {ops:Array Oper} {Q:b8→Env→ao→Prop} {env:Env} {s:ao} {l:List Oper} {o:Oper} {d:Nat}
theorem a7.qJ (aP:bQ P Γ) {t e:TypeId} {x:Operand} {it:bN} {b n cap:Nat} (ah:o.op = .call { callee := .builtin .len,args := #[x],argTypes := #[t] }) (aN:Γ.get? t=some it) (bs:it.bG = .aC e) (ab:aL env x=some (eu b n cap)) :
  a7 P N o env s (fun x al=>x = .int .i64 n∧al=s) (fun _ _=>False):=by
 refine a7.nn jf fun ro B a w p aI=>?_
 obtain ⟨info,d,U,ae,an,-⟩:=aP.parts aN;have ax:d = .slice e:=by rw [bs] at an;cases d<;>simp [ez] at an;rw [an]
 subst ax;have aF:=aI.aL ab;generalize av:a.eval x=dX at aF;cases aF;refine .same (val := .int .i64 n) ?_ (.int _ _);unfold execOp;rw [ah];simp [Go.resolve,Go.invoke,Go.builtin,aa',ac5,g9,av,Builtin.len_,run_underlying ae,goInt]
theorem aa.qJ (aP:bQ P Γ) {t e:TypeId} {x:Operand} {it:bN} {b n cap:Nat} (aw:guardOf ops env o=some true) (ax:o.dst=some d) (aW:t6 d N=true) (ah:o.op = .call { callee := .builtin .len,args := #[x],argTypes := #[t] }) (aN:Γ.get? t=some it) (bs:it.bG = .aC e) (ab:aL env x=some (eu b n cap))
  (h:aa P N ops l Q ((d,.int .i64 n)::env) s):aa P N ops (o::l) Q env s:=
 aa.op aw ax aW (a7.qJ aP ah aN bs ab) (fun x al ⟨U,ae⟩=>by subst U;subst ae;exact h) (fun _ _ h=>h.elim)
theorem a7.Ad (aP:bQ P Γ) {t e:TypeId} {x y:Operand} {it aG:bN} {b n cap k:Nat} {qK:IntKind} (ah:o.op = .slice t x none (some y) none) (aN:Γ.get? t=some it) (bs:it.bG = .aC e) (bI:Γ.get? e=some aG) (ab:aL env x=some (eu b n cap)) (ay:aL env y=some (.int qK (k:Int))) (aD:k≤cap) :
  a7 P N o env s (fun x al=>x=eu b k cap∧al=s) (fun _ _=>False):=by
 refine a7.nn jf fun ro B a w p aI=>?_
 obtain ⟨info,d,U,ae,an,-⟩:=aP.parts aN;obtain ⟨jU,kA,cA,db,fe,eH,-⟩:=aP.parts bI;have ax:d = .slice e:=by rw [bs] at an;cases d<;>simp [ez] at an;rw [an]
 subst ax;have aF:=aI.aL ab;have fl:=aI.aL ay;generalize eA:a.eval x=dX at aF;generalize ff:a.eval y=ga at fl;cases aF;cases fl;refine .same (val := .slice (some ⟨b,0,none⟩) k cap) ?_ (.hB _);unfold execOp;rw [ah];simp only [eA,aq3,al9,ff];refine gV ?_;have az:(0:Int)≤(k:Int):=by omega
 have aA:(k:Int)≤(cap:Int):=by omega
 have aq:(Instr.sliceBounds true n cap none (some (.int qK (k:Int))) none).run P w = .ok (0,k,cap) w:=by
  simp [Instr.sliceBounds,run_sliceBound,az,aA]
 simp only [Instr.sliceAt,Instr.slice,aa',run_underlying ae,g9,aq,sizeOf,typeInfo,run_program,cA,ac5,eH,az',Nat.zero_mul];by_cases br:cap=0
 ·simp [br]
 ·simp [br,lo]
theorem aa.Ad (aP:bQ P Γ) {t e:TypeId} {x y:Operand} {it aG:bN} {b n cap:Nat} (k:Nat) {qK:IntKind} (aw:guardOf ops env o=some true) (ax:o.dst=some d) (aW:t6 d N=true) (ah:o.op = .slice t x none (some y) none) (aN:Γ.get? t=some it) (bs:it.bG = .aC e) (bI:Γ.get? e=some aG)
  (ab:aL env x=some (eu b n cap)) (ay:aL env y=some (.int qK (k:Int))) (aD:k≤cap) (h:aa P N ops l Q ((d,eu b k cap)::env) s):aa P N ops (o::l) Q env s:=
 aa.op aw ax aW (a7.Ad aP ah aN bs bI ab ay aD) (fun x al ⟨U,ae⟩=>by subst U;subst ae;exact h) (fun _ _ h=>h.elim)
theorem aa.fo (aP:bQ P Γ) {t e:TypeId} {x y:Operand} {it aG:bN} {b n cap:Nat} {k:IntKind} {i:Int} (j:Nat) (aw:guardOf ops env o=some true) (ax:o.dst=some d) (aW:t6 d N=true) (ah:o.op = .indexAddr t x y) (aN:Γ.get? t=some it) (bs:it.bG = .aC e) (bI:Γ.get? e=some aG)
  (ab:aL env x=some (eu b n cap)) (ay:aL env y=some (.int k i)) (eN:i=(j:Int)) (aK:j<n) (h:aa P N ops l Q ((d,.ptr b (j*aG.size))::env) s):aa P N ops (o::l) Q env s:=
 aa.op aw ax aW (a7.fo aP ah aN bs bI ab ay eN aK) (fun x al ⟨U,ae⟩=>by subst U;subst ae;exact h) (fun _ _ h=>h.elim)
end
theorem S9 {m n:Nat} (hm:m<2^64) (az:n<2^64):m|||n<2^64:=ag9 hm az
theorem Kw {m n:Nat} (hm:m<2^64):m &&& n<2^64:=ah5 as2 hm
def k2 (m n:Nat):Nat:=m &&& (18446744073709551615 ^^^ n)
theorem rU (m:Nat):ah8 64 (m:Int)=ax2 64 m:=by
 apply BitVec.eq_of_toNat_eq;rw [BitVec.toNat_ofInt,ai8];omega
theorem wrap64 {m:Nat} (h:m<2^64):H1 .u64 (m:Int)=(m:Int):=by
 unfold H1;simp [ak1,av4];omega
section
variable {P:Program} {N:Nat} {ops:Array Oper} {Q:b8→Env→ao→Prop} {env:Env} {s:ao} {l:List Oper} {o:Oper} {d:Nat}
theorem a7.shl {t yt:TypeId} {x y:Operand} {k k':IntKind} {a b r:Int} (ah:o.op = .binOp .shl t x y yt) (ab:aL env x=some (.int k a)) (ay:aL env y=some (.int k' b)) (aq:0≤b) (aF:k.wrap (a*2^(min b.toNat k.bits))=r) :
  a7 P N o env s (fun x al=>x = .int k r∧al=s) (fun _ _=>False):=by
 refine a7.nn jf fun ro B da w p aI=>?_
 have U:=aI.aL ab;have ae:=aI.aL ay;generalize eA:da.eval x=dX at U;generalize ff:da.eval y=ga at ae;cases U;cases ae;refine ur (v := .int k r) ah ?_ ?_ (.int _ _)
 ·rw [eA,ff];unfold eqGuard;simp
 ·rw [eA,ff]
  have dO:¬ b<0:=by omega
  simp only [binOp,Op.shift,dO,if_false,aF];rfl
theorem a7.shr {t yt:TypeId} {x y:Operand} {k k':IntKind} {a b r:Int} (ah:o.op = .binOp .shr t x y yt) (ab:aL env x=some (.int k a)) (ay:aL env y=some (.int k' b)) (aq:0≤b) (aF:a.fdiv (2^(min b.toNat k.bits))=r) :
  a7 P N o env s (fun x al=>x = .int k r∧al=s) (fun _ _=>False):=by
 refine a7.nn jf fun ro B da w p aI=>?_
 have U:=aI.aL ab;have ae:=aI.aL ay;generalize eA:da.eval x=dX at U;generalize ff:da.eval y=ga at ae;cases U;cases ae;refine ur (v := .int k r) ah ?_ ?_ (.int _ _)
 ·rw [eA,ff];unfold eqGuard;simp
 ·rw [eA,ff]
  have dO:¬ b<0:=by omega
  simp only [binOp,Op.shift,dO,if_false,aF];rfl
def bitsOf (op:BinOp) (k:IntKind) (a b:Int):Option Int:=match op with
 | .and=>some (k.wrap (ah8 k.bits a &&& ah8 k.bits b).toNat)
 | .or=>some (k.wrap (ah8 k.bits a|||ah8 k.bits b).toNat)
 | .xor=>some (k.wrap (ah8 k.bits a ^^^ ah8 k.bits b).toNat)
 | .andNot=>some (k.wrap (ah8 k.bits a &&& ~~~(ah8 k.bits b)).toNat)
 | _=>none
theorem a7.bits {op:BinOp} {t yt:TypeId} {x y:Operand} {k:IntKind} {a b r:Int} (ah:o.op = .binOp op t x y yt) (ab:aL env x=some (.int k a)) (ay:aL env y=some (.int k b)) (aF:bitsOf op k a b=some r) :
  a7 P N o env s (fun x al=>x = .int k r∧al=s) (fun _ _=>False):=by
 refine a7.nn jf fun ro B da w p aI=>?_
 have U:=aI.aL ab;have ae:=aI.aL ay;generalize eA:da.eval x=dX at U;generalize ff:da.eval y=ga at ae;cases U;cases ae;refine ur (v := .int k r) ah ?_ ?_ (.int _ _)
 ·rw [eA,ff];unfold eqGuard;cases op<;>first|rfl|(cases aF;done)
 ·rw [eA,ff]
  cases op<;>simp only [bitsOf] at aF<;>first|(cases aF;done)|(cases aF;simp only [binOp,ne_eq,not_true_eq_false,if_false,Op.intBits];rfl)
theorem aa.shl {t yt:TypeId} {x y:Operand} {k k':IntKind} {a b:Int} (r:Int) (aw:guardOf ops env o=some true) (ax:o.dst=some d) (aW:t6 d N=true) (ah:o.op = .binOp .shl t x y yt) (ab:aL env x=some (.int k a)) (ay:aL env y=some (.int k' b)) (aq:0≤b) (aF:k.wrap (a*2^(min b.toNat k.bits))=r)
  (h:aa P N ops l Q ((d,.int k r)::env) s):aa P N ops (o::l) Q env s:=
 aa.op aw ax aW (a7.shl ah ab ay aq aF) (fun x al ⟨U,ae⟩=>by subst U;subst ae;exact h) (fun _ _ h=>h.elim)
theorem aa.shr {t yt:TypeId} {x y:Operand} {k k':IntKind} {a b:Int} (r:Int) (aw:guardOf ops env o=some true) (ax:o.dst=some d) (aW:t6 d N=true) (ah:o.op = .binOp .shr t x y yt) (ab:aL env x=some (.int k a)) (ay:aL env y=some (.int k' b)) (aq:0≤b) (aF:a.fdiv (2^(min b.toNat k.bits))=r)
  (h:aa P N ops l Q ((d,.int k r)::env) s):aa P N ops (o::l) Q env s:=
 aa.op aw ax aW (a7.shr ah ab ay aq aF) (fun x al ⟨U,ae⟩=>by subst U;subst ae;exact h) (fun _ _ h=>h.elim)
theorem aa.bits {op:BinOp} {t yt:TypeId} {x y:Operand} {k:IntKind} {a b:Int} (r:Int) (aw:guardOf ops env o=some true) (ax:o.dst=some d) (aW:t6 d N=true) (ah:o.op = .binOp op t x y yt) (ab:aL env x=some (.int k a)) (ay:aL env y=some (.int k b)) (aF:bitsOf op k a b=some r)
  (h:aa P N ops l Q ((d,.int k r)::env) s):aa P N ops (o::l) Q env s:=
 aa.op aw ax aW (a7.bits ah ab ay aF) (fun x al ⟨U,ae⟩=>by subst U;subst ae;exact h) (fun _ _ h=>h.elim)
end
theorem wC {m n:Nat} (hm:m<2^64) (az:n<2^64):bitsOf .or .u64 (m:Int) (n:Int)=some ((m|||n:Nat):Int):=by
 show some (H1 .u64 ((ah8 64 (m:Int)|||ah8 64 (n:Int)).toNat:Int))=_;rw [rU,rU,ay3,ai8,ai8,aj4 hm,aj4 az,wrap64 (S9 hm az)]
theorem uH {m n:Nat} (hm:m<2^64) (az:n<2^64):bitsOf .and .u64 (m:Int) (n:Int)=some ((m &&& n:Nat):Int):=by
 show some (H1 .u64 ((ah8 64 (m:Int) &&& ah8 64 (n:Int)).toNat:Int))=_;rw [rU,rU,au1,ai8,ai8,aj4 hm,aj4 az,wrap64 (Kw hm)]
theorem FZ {m:Nat} (h:m<2^63):H1 .i64 (m:Int)=(m:Int):=by
 unfold H1;simp [ak1,av4];omega
theorem S' {m n:Nat} (hm:m<2^63) (az:n<2^63):bitsOf .or .i64 (m:Int) (n:Int)=some ((m|||n:Nat):Int):=by
 show some (H1 .i64 ((ah8 64 (m:Int)|||ah8 64 (n:Int)).toNat:Int))=_;rw [rU,rU,ay3,ai8,ai8,aj4 ag,aj4 ag,FZ (ag9 hm az)]
theorem Ae {m n:Nat} (hm:m<2^63) (az:n<2^63):bitsOf .and .i64 (m:Int) (n:Int)=some ((m &&& n:Nat):Int):=by
 show some (H1 .i64 ((ah8 64 (m:Int) &&& ah8 64 (n:Int)).toNat:Int))=_;rw [rU,rU,au1,ai8,ai8,aj4 ag,aj4 ag,FZ (ah5 as2 hm)]
theorem C1 {m n:Nat} (hm:m<2^64) (az:n<2^64):bitsOf .andNot .u64 (m:Int) (n:Int)=some ((k2 m n:Nat):Int):=by
 show some (H1 .u64 ((ah8 64 (m:Int) &&& ~~~(ah8 64 (n:Int))).toNat:Int))=_;rw [rU,rU];unfold k2;have h:(ax2 64 m &&& ~~~(ax2 64 n)).toNat=m &&& (18446744073709551615 ^^^ n):=by
  rw [au1,BitVec.toNat_not,ai8,ai8,aj4 hm,aj4 az];apply ak';intro i;rw [aj3,aj3,Nat.testBit_xor];have ae:2^64-1-n=2^64-(n+1):=by omega
  rw [ae,Nat.testBit_two_pow_sub_succ az,show (18446744073709551615:Nat)=2^64-1 from rfl,af9];by_cases aQ:i<64
  ·simp [aQ]
  ·have:m.testBit i=false:=ak5 (ai7 hm (af4 ag ag))
   simp [this]
 rw [h,wrap64 (Kw hm)]
theorem C2 {c:Nat} (h:c<64):H1 .u64 (1*2^(min (c:Int).toNat (ak1 .u64)))=((2^c:Nat):Int):=by
 have U:min (c:Int).toNat (ak1 .u64)=c:=by simp [ak1];omega
 rw [U];have ae:(1*2^c:Int)=((2^c:Nat):Int):=by push_cast;omega
 rw [ae,wrap64 (ag1 ag h)]
theorem tn {m c:Nat} (h:c<64):Int.fdiv (m:Int) (2^(min (c:Int).toNat (ak1 .u64)))=((m >>> c:Nat):Int):=by
 have U:min (c:Int).toNat (ak1 .u64)=c:=by simp [ak1];omega
 rw [U,Nat.shiftRight_eq_div_pow];have ae:(2^c:Int)=((2^c:Nat):Int):=by push_cast;rfl
 rw [ae,Int.fdiv_eq_ediv_of_nonneg _ (Int.natCast_nonneg _)];rfl
theorem ad.b0 {P:Program} {N:Nat} {Q:b8→Env→ao→Prop} {env:Env} {s:ao} {L:a'} {σ:Type} {c:Code} (gv:List Nat) {Af:Env} (aD:wx gv env []=(Af,())) (I:Ok s L) (dF:σ→Env) (K:σ→a') (acW:σ→Prop) (μ:σ→Nat) (nS:σ) {FE:a'} (ak:acW nS) (dH:Env.Sub (dF nS) env) (cj:aH L (K nS) FE)
  (round:∀ x,acW x→Ok s (K x)→ad P N c (b8.andThen (bn s (fun z=>dF z++Af) K acW (fun y=>μ y<μ x)) Q) (dF x++Af) (aT s (K x))):ad P N (.loop c) Q env (aT s L):=
 ad.x6 I (fun z=>dF z++Af) K acW μ nS ak (dH.append (zW gv [] Af trivial aD)) cj round
section
variable {P:Program} {Γ:cz} {N:Nat} {ops:Array Oper} {Q:b8→Env→ao→Prop} {env:Env} {s:ao} {l:List Oper} {o:Oper} {d:Nat}
theorem a7.arr (aP:bQ P Γ) {t e:TypeId} {x y:Operand} {it aG:bN} {k:IntKind} {len b off j:Nat} {i:Int} (ah:o.op = .indexAddr t x y) (aN:Γ.get? t=some it) (bs:it.bG = .arr len e) (bI:Γ.get? e=some aG) (ab:aL env x=some (.ptr b off)) (ay:aL env y=some (.int k i)) (eN:i=(j:Int)) (aK:j<len) :
  a7 P N o env s (fun x al=>x = .ptr b (off+j*aG.size)∧al=s) (fun _ _=>False):=by
 obtain ⟨info,wD,U,ae,an,-⟩:=aP.parts aN;obtain ⟨jU,kA,cA,db,fe,eH,-⟩:=aP.parts bI;obtain rfl:=zp (an.trans bs);refine a7.nn jf fun ro B a w p aI=>?_
 have U:=aI.aL ab;have nU:=aI.aL ay;generalize eA:a.eval x=dX at U;generalize ff:a.eval y=ga at nU;cases U;cases nU;subst eN;refine .same (val := .pointer (some ⟨b,off+j*aG.size,none⟩)) ?_ (.ptr b _);unfold execOp;rw [ah];simp only [eA,ff];refine gV ?_;simp [Instr.indexAt,asIntOf,run_underlying ae,aK,sizeOf,typeInfo,cA,eH,lo,Instr.sureAddr]
theorem a7.l0 (aP:bQ P Γ) {t e:TypeId} {x y:Operand} {it aG:bN} {k:IntKind} {len off j:Nat} {cs:List af} {i:Int} (ah:o.op = .indexAddr t x y) (aN:Γ.get? t=some it) (bs:it.bG = .arr len e) (bI:Γ.get? e=some aG) (ab:aL env x=some (.bA cs off)) (ay:aL env y=some (.int k i)) (eN:i=(j:Int)) (aK:j<len) :
  a7 P N o env s (fun x al=>x = .bA cs (off+j*aG.size)∧al=s) (fun _ _=>False):=by
 obtain ⟨info,wD,U,ae,an,-⟩:=aP.parts aN;obtain ⟨jU,kA,cA,db,fe,eH,-⟩:=aP.parts bI;obtain rfl:=zp (an.trans bs);refine a7.nn jf fun ro B a w p aI=>?_
 have U:=aI.aL ab;have nU:=aI.aL ay;generalize eA:a.eval x=dX at U;generalize ff:a.eval y=ga at nU;cases nU;subst eN;cases U with
 | bA b base o' _ vs _ cF aA aF=>
 refine .same (val := .pointer (some ⟨b,o'+j*aG.size,none⟩)) ?_ (.bA b base _ _ vs cs ag aA aF);unfold execOp;rw [ah];simp only [eA,ff];refine gV ?_;simp [Instr.indexAt,asIntOf,run_underlying ae,aK,sizeOf,typeInfo,cA,eH,lo,Instr.sureAddr]
theorem aa.arr (aP:bQ P Γ) {t e:TypeId} {x y:Operand} {it aG:bN} {k:IntKind} {len b off:Nat} {i:Int} (j:Nat) (aw:guardOf ops env o=some true) (ax:o.dst=some d) (aW:t6 d N=true) (ah:o.op = .indexAddr t x y) (aN:Γ.get? t=some it) (bs:it.bG = .arr len e) (bI:Γ.get? e=some aG) (ab:aL env x=some (.ptr b off)) (ay:aL env y=some (.int k i)) (eN:i=(j:Int)) (aK:j<len)
  (h:aa P N ops l Q ((d,.ptr b (off+j*aG.size))::env) s):aa P N ops (o::l) Q env s:=
 aa.op aw ax aW (a7.arr aP ah aN bs bI ab ay eN aK) (fun x al ⟨U,ae⟩=>by subst U;subst ae;exact h) (fun _ _ h=>h.elim)
theorem aa.l0 (aP:bQ P Γ) {t e:TypeId} {x y:Operand} {it aG:bN} {k:IntKind} {len off:Nat} {cs:List af} {i:Int} (j:Nat) (aw:guardOf ops env o=some true) (ax:o.dst=some d) (aW:t6 d N=true) (ah:o.op = .indexAddr t x y) (aN:Γ.get? t=some it) (bs:it.bG = .arr len e) (bI:Γ.get? e=some aG) (ab:aL env x=some (.bA cs off)) (ay:aL env y=some (.int k i)) (eN:i=(j:Int)) (aK:j<len)
  (h:aa P N ops l Q ((d,.bA cs (off+j*aG.size))::env) s):aa P N ops (o::l) Q env s:=
 aa.op aw ax aW (a7.l0 aP ah aN bs bI ab ay eN aK) (fun x al ⟨U,ae⟩=>by subst U;subst ae;exact h) (fun _ _ h=>h.elim)
end
end Go.cW
namespace Go.dv
def mv (first i:Int):List Int→List Int→Bool
 | _,[]=>true
 | seen,c::r=>decide (c≥first)&&(decide (c<first+i)&&(!seen.contains c&&mv first i (seen++[c]) r))
def n7:Nat→List (List Int)→Bool
 | _,[]=>true
 | i,l::r=>decide (l.length≤3)&&(mv 3 i [] l&&n7 (i+1) r)
def mw (g:List (List Int)):Bool:=decide (g.length≤16)&&n7 0 g
def fw (n:Int) (l:List Int):List Int:=l.filter fun x=>x != n
def free (all:List (List Int)) (c:Int):Bool:=all.all fun l => !(l.drop 1).contains c
def pick (all:List (List Int)):List (List Int)→Option Int
 | []=>none
 | []::r=>pick all r
 | (c::_)::r=>if free all c then some c else pick all r
def total (all:List (List Int)):Nat:=(all.map List.length).sum
def merge:Nat→List (List Int)→List Int→List Int×Bool
  | 0,_,acc=>(acc,false)
  | k+1,all,acc=>match pick all all with
    | none=>(acc,all.all an3)
    | some c=>merge k (all.map (fw c)) (acc++[c])
def merged (all:List (List Int)):List Int×Bool:=merge (total all+1) all []
def parents (g:List (List Int)) (c:Nat):List Int:=if c<3 then [] else g.getD (c-3) []
def iS (fE:List (List Int)):List Int→Option (List (List Int))
 | []=>some []
 | p::r=>if (fE.getD p.toNat []).isEmpty then none else (iS fE r).map fun l=>fw 0 (fE.getD p.toNat [])::l
def lists (g:List (List Int)) (fE:List (List Int)) (c:Nat):Option (List (List Int)):=(iS fE (parents g c)).map fun l=>l++[parents g c]
def order (g:List (List Int)) (fE:List (List Int)) (c:Nat):List Int:=match lists g fE c with
 | none=>[]
 | some all=>if (merged all).2 then (c:Int)::(merged all).1++[0] else []
def fE (g:List (List Int)):Nat→List (List Int)
 | 0=>[[0]]
 | k+1=>fE g k++[order g (fE g k) (k+1)]
theorem tp (g:List (List Int)):∀ k,(fE g k).length=k+1
 | 0=>rfl
 | k+1=>by rw [fE,f8,tp g k];rfl
theorem x' (n:Int) (l:List Int):(fw n l).length≤l.length:=ag6 ..
theorem Ta (n:Int) (l:List Int):fw n (n::l)=fw n l:=by unfold fw;simp
theorem Tb (n:Int) (all:List (List Int)):total (all.map (fw n))≤total all:=by
 unfold total
 induction all with
 | nil=>exact i0 _
 | cons l r a6=>
  have:=x' n l;simp only [ac4,List.sum_cons] at a6 ⊢;omega
theorem C3 {n:Int} {all:List (List Int)} (h:∃ t,n::t∈all):total (all.map (fw n))<total all:=by
 obtain ⟨t,h⟩:=h
 induction all with
 | nil=>cases h
 | cons l r a6=>
  have br:total (l::r)=l.length+total r:=rfl;have U:total ((l::r).map (fw n))=(fw n l).length+total (r.map (fw n)):=rfl;rw [br,U];rcases ad1.1 h with rfl|h
  ·have ae:=x' n t
   have an:=Tb n r;rw [Ta,i8];omega
  ·have:=a6 h
   have:=x' n l;omega
theorem uI {all:List (List Int)} {c:Int}:∀ {l:List (List Int)},pick all l=some c→∃ t,c::t∈l
  | [],h=>by cases h
  | []::r,h=>by
    obtain ⟨t,h⟩:=uI (l:=r) h;exact ⟨t,i5 _ h⟩
  | (d::q)::r,h=>by
    rw [pick] at h;split at h
    · cases h;exact ⟨q,i7⟩
    · obtain ⟨t,h⟩:=uI (l:=r) h
      exact ⟨t,i5 _ h⟩
structure b7 where
 atom:Int
 no:Int
 yes:Int
 ms:List Int
 deriving DecidableEq,Inhabited
def qL:List Int→Bool
 | []=>true
 | [x]=>decide (x≥0)
 | x::y::r=>decide (x≥0)&&(decide (x<y)&&qL (y::r))
def iq (len i:Nat) (x:b7):Bool:=
 if x.atom = -1 then decide (x.no=0)&&(decide (x.yes=0)&&(decide (x.ms.length≤16)&&qL x.ms))
 else decide (x.atom≥0)&&(decide (x.atom<7)&&(decide (x.no>i)&&(decide (x.no<len)&&(decide (x.yes>i)&&(decide (x.yes<len)&&x.ms.isEmpty)))))
def oZ (len:Nat):Nat→List b7→Bool
 | _,[]=>true
 | i,x::r=>iq len i x&&oZ len (i+1) r
def hI (g:List b7):Bool:=decide (1≤g.length)&&(decide (g.length≤300)&&oZ g.length 0 g)
def hV:Nat→List b7→List Int
 | _,[]=>[]
 | i,x::r=>
  let h:=hV (i+1) r
  (if x.atom≥0 then 1+max (h.getD (x.no.toNat-(i+1)) 0) (h.getD (x.yes.toNat-(i+1)) 0) else 0)::h
def lz (g:List b7):Int:=(hV 0 g).getD 0 0
def n8 {α:Type} (f:Nat→α→Bool):Nat→List α→Option Nat
  | _,[]=>none
  | k,x::r=>match n8 f (k+1) r with
    | some j=>some j
    | none=>if f k x then some k else none
def ei:Nat→List b7→List Int×List b7
 | _,[]=>([],[])
 | i,x::r=>
  let p:=ei (i+1) r
  let y:b7:=if x.atom≥0 then { x with no:=p.1.getD (x.no.toNat-(i+1)) 0,yes:=p.1.getD (x.yes.toNat-(i+1)) 0 } else x
  let k:Int:=match n8 (fun k z=>p.1.getD k 0==((i+1+k:Nat):Int)&&z==y) 0 p.2 with
   | some k=>((i+1+k:Nat):Int)
   | none=>(i:Int)
  (k::p.1,y::p.2)
def meet (g:List b7):Nat→List Int→Int→List Int
 | 0,order,_=>order
 | k+1,order,fh=>
  if order.contains fh then order
  else
   let x:=g.getD fh.toNat default
   (if x.atom≥0 then meet g k (meet g k order x.yes) x.no else order)++[fh]
def placeOf (l:List Int) (n:Int):Int:=((l.findIdx? (· == n)).getD 0:Nat)
def small (g:List b7):List b7:=
 let p:=ei 0 g
 let order:=meet p.2 (g.length+1) [] (p.1.getD 0 0)
 order.reverse.map fun fh=>
  let x:=p.2.getD fh.toNat default
  if x.atom≥0 then { x with no:=(order.length:Int)-1-placeOf order x.no,yes:=(order.length:Int)-1-placeOf order x.yes } else x
inductive aj where
 | mk (op arg:Int) (path:List Int) (cls n:Int) (kids:List aj)
namespace aj
def op:aj→Int | .mk o _ _ _ _ _=>o
def arg:aj→Int | .mk _ a _ _ _ _=>a
def path:aj→List Int | .mk _ _ p _ _ _=>p
def cls:aj→Int | .mk _ _ _ c _ _=>c
def n:aj→Int | .mk _ _ _ _ n _=>n
def kids:aj→List aj | .mk _ _ _ _ _ k=>k
mutual
def size:aj→Nat
 | .mk _ _ p _ _ ks=>1+p.length+hv ks
def hv:List aj→Nat
 | []=>0
 | k::r=>k.size+hv r
end
theorem size_eq (x:aj):x.size=1+x.path.length+hv x.kids:=by cases x;rw [size];rfl
theorem hx:∀ {l:List aj} {x:aj},x∈l→x.size≤hv l
  | k::r,x,h=>by
    rw [hv];rcases ad1.1 h with rfl|h
    · omega
    · have:=hx h;omega
theorem pP:∀ l:List aj,l.length≤hv l
 | []=>i0 _
 | k::r=>by have:=pP r;rw [hv,i8,size_eq];omega
instance:Inhabited aj:=⟨.mk 0 0 [] 0 0 []⟩
mutual
def same:aj→aj→Bool
 | .mk o a p c n ks,.mk o' da bk o0 n' C4=>decide (o=o')&&(decide (a=da)&&(decide (c=o0)&&(decide (n=n')&&(p==bk&&o1 ks C4))))
def o1:List aj→List aj→Bool
 | [],[]=>true
 | x::r,y::t=>same x y&&o1 r t
 | _,_=>false
end
mutual
theorem Kx:∀ (x y:aj),same x y=true↔x=y
  | .mk o a p c n ks,.mk o' da bk o0 n' C4=>by
    rw [same];simp only [f7,g8,beq_iff_eq,Ky ks C4,aj.mk.injEq];constructor
    · rintro ⟨U,ae,an,bd,bD,fk⟩;exact ⟨U,ae,bD,an,bd,fk⟩
    · rintro ⟨U,ae,bD,an,bd,fk⟩;exact ⟨U,ae,an,bd,bD,fk⟩
theorem Ky:∀ (x y:List aj),o1 x y=true↔x=y
  | [],[]=>by simp [o1]
  | [],y::t=>by simp [o1]
  | x::r,[]=>by simp [o1]
  | x::r,y::t=>by
    rw [o1,f7,Kx x y,Ky r t,List.cons.injEq]
end
def cU (f:aj):Bool:=decide (f.op≥2)&&decide (f.op≤4)
def not (f:aj):aj := .mk 5 0 [] 0 0 [f]
def and (f g:aj):aj := .mk 6 0 [] 0 0 [f,g]
end aj
structure bx where
 ps:List (List Int)
 owner:List Int
structure iT where
 slot:Int
 n:Int
structure fK where
 parents:List Int
 bl:List Int
 inits:List iT
 deriving Inhabited
structure hJ where
 kind:Int
 gen:Int
 fact:aj
 node:Int
 deriving Inhabited
structure iU where
 op:Int
 n:Int
 kids:List Int
 deriving Inhabited
structure bP where
 cl:List fK
 bl:Int
 dw:List Int
 methods:List hJ
 nodes:List iU
 main:Int
structure dD where
 cls:Int
 bl:List (Int×Int)
 deriving Inhabited
def pQ (op:Int):Nat:=if op=5 then 1 else if op=6∨op=7 then 2 else 0
def km (n:Int):Bool:=decide (n ≥ -1000000000)&&decide (n≤1000000000)
def h3 (w:bx) (f:aj):Bool:=
 decide (f.op≥1)&&(decide (f.op≤7)&&(decide (f.kids.length=pQ f.op) &&
  (if f.cU then
   decide (f.arg≥0)&&(decide (f.arg<3)&&(decide (f.path.length≤2)&&(f.path.all (fun s=>decide (s≥0)&&decide (s<w.owner.length)) &&
    (if f.op=2 then decide (f.n=0)&&(decide (f.cls≥0)&&decide (f.cls<3+w.ps.length)) else decide (f.cls=0)&&km f.n))))
  else decide (f.arg=0)&&(decide (f.path.length=0)&&(decide (f.cls=0)&&decide (f.n=0))))))
mutual
def e1 (w:bx) (d:Nat) (k:Int):aj→Bool×Int
 | .mk o a p c n ks=>
  if decide (k-1<0)||decide (d=0) then (false,k-1)
  else if h3 w (.mk o a p c n ks) then gX w (d-1) (k-1) ks else (false,k-1)
def gX (w:bx) (d:Nat) (k:Int):List aj→Bool×Int
 | []=>(true,k)
 | x::r=>if (e1 w d k x).1 then gX w d (e1 w d k x).2 r else (false,(e1 w d k x).2)
end
def h' (w:bx) (f:aj):Bool:=(e1 w 12 24 f).1
end Go.dv
namespace Go.dv
def wE:Nat→List (List Int)→Bool
 | _,[]=>true
 | i,l::r=>mv 3 i [] l&&wE (i+1) r
structure fT (w:bx):Prop where
 iV:w.ps.length≤60
 short:∀ l∈w.ps,l.length≤3
 n9:wE 0 w.ps=true
 bl:w.owner.length≤40
 own:∀ o∈w.owner,3≤o∧o<3+(w.ps.length:Int)
def rV (up:List Nat) (l:List Int):Nat:=l.foldl (fun s p=>s|||up.getD p.toNat 0) (1|||2^up.length)
def j4:List Nat→List (List Int)→List Nat
 | up,[]=>up
 | up,l::r=>j4 (up++[rV up l]) r
def ey (ps:List (List Int)):List Nat:=j4 [1,3,5] ps
theorem Kz:∀ (ps:List (List Int)) (up:List Nat),(j4 up ps).length=up.length+ps.length
 | [],up=>rfl
 | l::r,up=>by rw [j4,Kz r,f8,ae6,i8];omega
theorem tq (ps:List (List Int)):(ey ps).length=3+ps.length:=Kz ps _
theorem C5:∀ {ps:List (List Int)} {i j:Nat} {l:List Int},wE i ps=true→ps[j]? = some l→mv 3 ((i+j:Nat):Int) [] l=true
  | l::r,i,0,x,h,ab=>by
    rw [wE,f7] at h;have:l=x:=by simpa using ab
    subst this;exact h.1
  | l::r,i,j+1,x,h,ab=>by
    rw [wE,f7] at h;have:=C5 (j:=j) h.2 (by simpa using ab);rw [show i+(j+1)=i+1+j by omega];exact this
theorem C6 {i:Int}:∀ {l seen:List Int} {k:Nat} {p:Int},mv 3 i seen l=true→l[k]? = some p→3≤p∧p<3+i∧p∉seen++l.take k
  | c::r,seen,0,p,h,aE=>by
    rw [mv] at h;simp only [f7,g8,Bool.not_eq_true',List.contains_eq_mem,decide_eq_false_iff_not] at h;have:c=p:=by simpa using aE
    subst this;refine ⟨h.1,h.2.1,by simpa using h.2.2.1⟩
  | c::r,seen,k+1,p,h,aE=>by
    rw [mv] at h;simp only [f7,g8] at h;have:=C6 (k:=k) h.2.2.2 (by simpa using aE);refine ⟨this.1,this.2.1,?_⟩;rw [List.take_succ_cons];have an:=this.2.2;simpa using an
theorem F0 {m n:Nat} (h:m<2^64) (k:n<2^64):m|||n<2^64:=ag9 h k
theorem Tc {up:List Nat} (h:∀ m∈up,m<2^64) (k:Nat):up.getD k 0<2^64:=by
 rw [d6];cases ab:up[k]? with
 | none=>exact Nat.two_pow_pos 64
 | some x=>exact h x (d5 ab)
theorem F1 {up:List Nat} (h:∀ m∈up,m<2^64):∀ (l:List Int) (s:Nat),s<2^64→l.foldl (fun s p=>s|||up.getD p.toNat 0) s<2^64
 | [],s,au=>au
 | p::r,s,au=>F1 h r _ (F0 au (Tc h _))
theorem Td {up:List Nat} (h:∀ m∈up,m<2^64) (aB:up.length<64) (l:List Int):rV up l<2^64:=
 F1 h l _ (F0 dW (ag1 ag aB))
theorem KA:∀ (ps:List (List Int)) (up:List Nat),(∀ m∈up,m<2^64)→up.length+ps.length<64→∀ m∈j4 up ps,m<2^64
  | [],up,h,_=>h
  | l::r,up,h,aB=>by
    rw [i8] at aB;rw [j4];refine KA r _ (fun m hm=>?_) (by rw [f8,ae6];omega);rcases ac9.1 hm with hm|hm
    · exact h m hm
    · rw [z2] at hm;subst hm
      exact Td h ag l
theorem ya {ps:List (List Int)} (h:ps.length≤60):∀ m∈ey ps,m<2^64:=
 KA ps _ (by intro m hm;simp at hm;rcases hm with rfl|rfl|rfl<;>decide) cE
theorem KB (l:List Int):∀ (ps:List (List Int)) (up:List Nat),j4 up (ps++[l])=j4 up ps++[rV (j4 up ps) l]
 | [],up=>rfl
 | x::r,up=>by rw [ab',j4,KB l r,← j4]
theorem KC (ps:List (List Int)) (l:List Int):ey (ps++[l])=ey ps++[rV (ey ps) l]:=KB l ps _
def pad (u:List Nat):List Nat:=u++t7 (63-u.length) 0
theorem Te {u:List Nat} (h:u.length≤63):(pad u).length=63:=by unfold pad;simp;omega
theorem yb {u:List Nat} {i:Nat} {m:Nat} (h:u[i]? = some m):(pad u)[i]? = some m:=by
 unfold pad;rw [ad6 (ac3.1 h).1];exact h
theorem Tf {u:List Nat} (h:u.length<63) (v:Nat):(pad u).set u.length v=pad (u++[v]):=by
 unfold pad;rw [List.set_append_right _ _ (i0 _),ao1,ae',f8,ae6];congr 1;obtain ⟨n,az⟩:∃ n,63-u.length=n+1:=⟨62-u.length,by omega⟩;have ae:63-(u.length+1)=n:=by omega
 rw [az,ae,List.replicate_succ];rfl
mutual
def gi (w:bx):aj→Bool
 | .mk o a p c n ks=>h3 w (.mk o a p c n ks)&&j5 w ks
def j5 (w:bx):List aj→Bool
 | []=>true
 | x::r=>gi w x&&j5 w r
end
theorem m0 (w:bx) (f:aj):gi w f=(h3 w f&&j5 w f.kids):=by cases f;rw [gi];rfl
theorem jy {w:bx}:∀ {l:List aj} {x:aj},j5 w l=true→x∈l→gi w x=true
  | y::r,x,h,ab=>by
    rw [j5,f7] at h;rcases ad1.1 ab with rfl|ab
    · exact h.1
    · exact jy h.2 ab
mutual
theorem rW:∀ (f:aj) (w:bx) (d:Nat) (k:Int),(e1 w d k f).1=true→gi w f=true
  | .mk o a p c n ks,w,d,k,h=>by
    rw [e1] at h;split at h
    · cases h
    · split at h
      · rename_i az
        rw [gi,az,f0];exact KD ks w _ _ h
      · cases h
theorem KD:∀ (l:List aj) (w:bx) (d:Nat) (k:Int),(gX w d k l).1=true→j5 w l=true
  | [],_,_,_,_=>rfl
  | x::r,w,d,k,h=>by
    rw [gX] at h;split at h
    · rename_i ab
      rw [j5,rW x w d k ab,KD r w d _ h];rfl
    · cases h
end
mutual
def iW:aj→Int
 | .mk o a p c n ks=>ia (if (aj.mk o a p c n ks).cU then a+1 else 0) ks
def ia (m:Int):List aj→Int
 | []=>m
 | x::r=>ia (max m (iW x)) r
end
theorem Ag (f:aj):iW f=ia (if f.cU then f.arg+1 else 0) f.kids:=by cases f;rw [iW];rfl
theorem KE:∀ (l r:List aj) (m:Int),ia m (l++r)=ia (ia m l) r
 | [],r,m=>by rw [d8,ia]
 | x::l,r,m=>by rw [ab',ia,ia,KE l r]
theorem uJ:∀ (l:List aj) (m:Int),m≤ia m l∧∀ x∈l,iW x≤ia m l
  | [],m=>⟨by rw [ia];exact ai0 _,fun x h=>by cases h⟩
  | x::r,m=>by
    have a6:=uJ r (max m (iW x));rw [ia];refine ⟨by have:=a6.1;omega,fun y ay=>?_⟩;rcases ad1.1 ay with rfl|ay
    · have:=a6.1;omega
    · exact a6.2 y ay
def fx (n:Int) (v:Int×Int):Bool:=
 if v.1=1 then km v.2 else if v.1=2 then decide (v.2=0) else decide (v.1=3)&&(decide (v.2≥0)&&decide (v.2<n))
def kH (w:bx) (m:Nat):List Int:=((List.range w.owner.length).filter fun s=>m.testBit (w.owner.getD s 0).toNat).map fun (s:Nat)=>(s:Int)
def rX (w:bx) (c:Int):Bool:=decide (c≥3)&&decide (c<3+(w.ps.length:Int))
def tr (w:bx) (n:Int) (o:dD):Bool:=rX w o.cls&&(decide (o.bl.length=(kH w ((ey w.ps).getD o.cls.toNat 0)).length)&&o.bl.all (fx n))
def ts (w:bx) (aU:List dD):Bool:=decide (aU.length≤40)&&aU.all (tr w aU.length)
def nC (w:bx) (aU:List dD) (args:List (Int×Int)):Bool:=
 ts w aU&&(decide (args.length≥1)&&(decide (args.length≤3)&&args.all (fx aU.length)))
def kI (w:bx) (c:Int):Nat:=(ey w.ps).getD c.toNat 0
def mx (w:bx) (aU:List dD):Int×Int→List Int→Option (Int×Int)
 | v,[]=>some v
 | v,s::r=>
  let o:=aU.getD v.2.toNat default
  if v.1≠3 then none
  else if (kI w o.cls).testBit (w.owner.getD s.toNat 0).toNat then
   mx w aU (o.bl.getD (((kH w (kI w o.cls)).findIdx? (· == s)).getD 0) (0,0)) r
  else none
def pR (w:bx) (aU:List dD) (args:List (Int×Int)) (f:aj):Bool:=
 match mx w aU (args.getD f.arg.toNat (0,0)) f.path with
 | none=>false
 | some v=>
  if f.op=2 then (if v.1=3 then (kI w (aU.getD v.2.toNat default).cls).testBit f.cls.toNat else (kI w v.1).testBit f.cls.toNat)
  else decide (v.1=1)&&((decide (v.2=f.n)==decide (f.op=4))&&decide (v.2≤f.n))
mutual
def oa (w:bx) (aU:List dD) (args:List (Int×Int)):aj→Bool
 | .mk o a p c n ks=>
  if o=1 then true
  else if o=5 then !(ob w aU args 0 ks)
  else if o=6 then ob w aU args 0 ks&&ob w aU args 1 ks
  else if o=7 then ob w aU args 0 ks||ob w aU args 1 ks
  else pR w aU args (.mk o a p c n ks)
def ob (w:bx) (aU:List dD) (args:List (Int×Int)):Nat→List aj→Bool
 | _,[]=>false
 | 0,x::_=>oa w aU args x
 | n+1,_::r=>ob w aU args n r
end
theorem wF (w:bx) (aU:List dD) (args:List (Int×Int)):∀ (n:Nat) (l:List aj) (x:aj),l[n]? = some x→ob w aU args n l=oa w aU args x
 | 0,y::r,x,h=>by rw [ob];simp at h;rw [h]
 | n+1,y::r,x,h=>by rw [ob];exact wF w aU args n r x fZ
theorem KF (w:bx) (aU:List dD) (args:List (Int×Int)) (f:aj):oa w aU args f =
  if f.op=1 then true
  else if f.op=5 then !(ob w aU args 0 f.kids)
  else if f.op=6 then ob w aU args 0 f.kids&&ob w aU args 1 f.kids
  else if f.op=7 then ob w aU args 0 f.kids||ob w aU args 1 f.kids
  else pR w aU args f:=by cases f;rw [oa];rfl
theorem KG:∀ (a b:List (List Int)) (up:List Nat),j4 up (a++b)=j4 (j4 up a) b
 | [],b,up=>rfl
 | x::a,b,up=>by rw [ab',j4,KG a b,← j4]
theorem KH:∀ (ps:List (List Int)) (up:List Nat),∃ r,j4 up ps=up++r
  | [],up=>⟨[],by rw [j4,d7]⟩
  | l::r,up=>by
    obtain ⟨t,h⟩:=KH r (up++[rV up l]);exact ⟨[rV up l]++t,by rw [j4,h,ae']⟩
theorem Ah {ps:List (List Int)} {i k:Nat} (aQ:i≤ps.length) (aD:k<3+i):(ey (ps.take i)).getD k 0=(ey ps).getD k 0:=by
 have h:ey ps=j4 (ey (ps.take i)) (ps.drop i):=by
  show j4 [1,3,5] ps=j4 (j4 [1,3,5] (ps.take i)) (ps.drop i);rw [← KG,ag5]
 obtain ⟨r,aF⟩:=KH (ps.drop i) (ey (ps.take i));rw [h,aF];have aB:(ey (ps.take i)).length=3+i:=by rw [tq,ac8,ak2 aQ]
 rw [d6,d6,ad6 ag]
theorem Tg {ps:List (List Int)} {i:Nat} {l:List Int} (aB:ps[i]? = some l):(ey ps).getD (3+i) 0=rV (ey (ps.take i)) l:=by
 have aQ:=(ac3.1 aB).1;rw [← Ah (i:=i+1) ag ag];have:ps.take (i+1)=ps.take i++[l]:=by rw [ak6,aB];rfl
 rw [this,KC,d6,ad5 (by rw [tq,ac8];omega)];rw [tq,ac8,ak2 ag,ao1];rfl
theorem KI (up:List Nat) (k:Nat):∀ (l:List Int) (s:Nat),(l.foldl (fun s p=>s|||up.getD p.toNat 0) s).testBit k=(s.testBit k||l.any fun p=>(up.getD p.toNat 0).testBit k)
 | [],s=>by simp
 | p::r,s=>by rw [List.foldl_cons,KI up k r,aj8,List.any_cons,ao7]
theorem Ai (k:Nat):(1:Nat).testBit k=decide (k=0):=by
 cases k with
 | zero=>rfl
 | succ k=>rw [Nat.testBit_succ];simp
theorem Th (c k:Nat):(2^c).testBit k=decide (c=k):=aj0
theorem C7 {w:bx} (hw:fT w) {i:Nat} {l:List Int} (aB:w.ps[i]? = some l) (k:Nat):((ey w.ps).getD (3+i) 0).testBit k=(decide (k=0)||(decide (3+i=k)||l.any fun p=>((ey w.ps).getD p.toNat 0).testBit k)):=by
 have aQ:=(ac3.1 aB).1;rw [Tg aB,rV,KI,aj8,Ai,Th];rw [show (ey (w.ps.take i)).length=3+i by rw [tq,ac8,ak2 ag],ao7];congr 2;have aw:=C5 hw.n9 aB;rw [ad3,ae2,ae2];constructor <;>
 ·rintro ⟨p,aE,h⟩
  obtain ⟨j,aK⟩:=ag3 aE;have:=C6 aw aK;refine ⟨p,aE,?_⟩;have e:=Ah (ps:=w.ps) (i:=i) (k:=p.toNat) ag ag
  first|rw [← e];exact h|rw [e];exact h
theorem wG {w:bx} (hw:fT w) {i:Nat} {l:List Int} (aB:w.ps[i]? = some l) {p:Int} (aE:p∈l):3≤p∧p<3+(i:Int):=by
 obtain ⟨j,aK⟩:=ag3 aE;have:=C6 (C5 hw.n9 aB) aK;omega
theorem C8 {w:bx} (hw:fT w) {c:Nat} (U:c<3+w.ps.length):((ey w.ps).getD c 0).testBit c=true:=by
 by_cases h:c<3
 ·rw [← Ah (ps:=w.ps) (i:=0) (g7 _) ag,aj2]
  rcases (by omega:c=0∨c=1∨c=2) with rfl|rfl|rfl<;>rfl
 ·obtain ⟨i,rfl⟩:∃ i,c=3+i:=⟨c-3,by omega⟩
  rw [C7 hw (g6 ag)];simp
theorem Ti {w:bx} (hw:fT w) {c:Nat} (U:c<3+w.ps.length):((ey w.ps).getD c 0).testBit 0=true:=by
 by_cases h:c<3
 ·rw [← Ah (ps:=w.ps) (i:=0) (g7 _) ag,aj2]
  rcases (by omega:c=0∨c=1∨c=2) with rfl|rfl|rfl<;>rfl
 ·obtain ⟨i,rfl⟩:∃ i,c=3+i:=⟨c-3,by omega⟩
  rw [C7 hw (g6 ag)];simp
theorem C9 {w:bx} {c k:Nat} (aA:c<3) (h:((ey w.ps).getD c 0).testBit k=true):k=c∨k=0:=by
 rw [← Ah (ps:=w.ps) (i:=0) (g7 _) ag,aj2] at h;rcases (by omega:c=0∨c=1∨c=2) with rfl|rfl|rfl
 ·rw [show (ey []).getD 0 0=1 from rfl,Ai,g8] at h
  exact .inr h
 ·have:k<2:=by
   rcases am0 k 2 with ae|ae
   ·exact ae
   ·have:=ak5 (x:=3) (i:=k) (ai7 dW (af4 dW ae))
    rw [show (ey []).getD 1 0=3 from rfl,this] at h;cases h
  omega
 ·have:k<3:=by
   rcases am0 k 3 with ae|ae
   ·exact ae
   ·have:=ak5 (x:=5) (i:=k) (ai7 dW (af4 dW ae))
    rw [show (ey []).getD 2 0=5 from rfl,this] at h;cases h
  rcases (by omega:k=0∨k=1∨k=2) with rfl|rfl|rfl
  ·exact .inr C
  ·exact absurd h dW
  ·exact .inl C
theorem yc {w:bx} (hw:fT w):∀ (n c k:Nat),c<n→c<3+w.ps.length→((ey w.ps).getD c 0).testBit k=true→k≤c∧(3≤c→k=0∨3≤k)
  | 0,_,_,h,_,_=>by omega
  | n+1,c,k,h,aA,aq=>by
    by_cases an:c<3
    · have:=C9 an aq;omega
    · obtain ⟨i,rfl⟩:∃ i,c=3+i:=⟨c-3,by omega⟩
      obtain ⟨l,aB⟩:∃ l,w.ps[i]? = some l:=⟨_,g6 ag⟩;rw [C7 hw aB] at aq;simp only [ag',g8,ae2] at aq;rcases aq with aq|aq|⟨p,aE,aq⟩
      · omega
      · omega
      · have U:=wG hw aB aE
        have:=yc hw n p.toNat k ag ag aq;omega
def hn (ps:List (List Int)):Nat→(Nat→Bool)→Nat→Bool
 | 0,f=>f
 | m+1,f=>hn ps m fun k=>f k||(f (3+m)&&(ps.getD m []).contains (k:Int))
theorem F2 {w:bx} (hw:fT w):∀ (m:Nat) (f:Nat→Bool) (k:Nat),k<3→m≤w.ps.length→hn w.ps m f k=f k
  | 0,f,k,_,_=>rfl
  | m+1,f,k,aD,hm=>by
    obtain ⟨l,aB⟩:∃ l,w.ps[m]? = some l:=⟨_,g6 ag⟩;rw [hn,F2 hw m _ k aD ag,d6,aB,ae1];have:l.contains (k:Int)=false:=by
      rw [ad0];intro h;have:=wG hw aB (af7.1 h);omega
    rw [this,Bool.and_false,Bool.or_false]
theorem F3 {w:bx} (hw:fT w):∀ (m:Nat) (f:Nat→Bool) (k:Nat),3≤k→m≤w.ps.length→(hn w.ps m f k=true↔f k=true∨∃ j,j<m∧f (3+j)=true∧((ey w.ps).getD (3+j) 0).testBit k=true)
  | 0,f,k,_,_=>by
    rw [hn];constructor
    · exact .inl
    · rintro (h|⟨j,h,_⟩)
      · exact h
      · omega
  | m+1,f,k,aD,hm=>by
    obtain ⟨l,aB⟩:∃ l,w.ps[m]? = some l:=⟨_,g6 ag⟩;rw [hn,F3 hw m _ k aD ag,d6,aB,ae1];have rY:=C7 hw aB k;simp only [ag',f7,af7];constructor
    · rintro ((h|⟨U,ae⟩)|⟨j,aK,h,aq⟩)
      · exact .inl h
      · refine .inr ⟨m,aj5 _,U,?_⟩
        rw [rY];have an:=wG hw aB ae;simp only [ag',ae2];exact .inr (.inr ⟨(k:Int),ae,by rw [ac0];exact C8 hw ag⟩)
      · rcases h with h|⟨U,ae⟩
        · exact .inr ⟨j,by omega,h,aq⟩
        · refine .inr ⟨m,aj5 _,U,?_⟩
          rw [rY];simp only [ag',ae2];exact .inr (.inr ⟨((3+j:Nat):Int),ae,by rw [ac0];exact aq⟩)
    · rintro (h|⟨j,aK,h,aq⟩)
      · exact .inl (.inl h)
      · rcases af1.1 aK with aK|rfl
        · exact .inr ⟨j,aK,.inl h,aq⟩
        · rw [rY] at aq
          simp only [ag',g8,ae2] at aq;rcases aq with aq|aq|⟨p,aE,aq⟩
          · omega
          · subst aq;exact .inl (.inl h)
          · have an:=wG hw aB aE
            refine .inr ⟨p.toNat-3,by omega,.inr ⟨h,?_⟩,?_⟩
            · rw [show ((3+(p.toNat-3):Nat):Int)=p by omega];exact aE
            · rw [show 3+(p.toNat-3)=p.toNat by omega];exact aq
def wH (w:bx) (c:Nat):Nat→Bool:=hn w.ps (c-2) fun k=>decide (k=c)
theorem F4 {w:bx} (hw:fT w) {c k:Nat} (aA:c<3+w.ps.length) (aD:1≤k):wH w c k=((ey w.ps).getD c 0).testBit k:=by
 unfold wH;by_cases an:c<3
 ·rw [show c-2=0 by omega,hn,ad3,g8]
  constructor
  ·rintro rfl;exact C8 hw aA
  ·intro h;have:=C9 an h;omega
 ·by_cases sW:k<3
  ·rw [F2 hw _ _ _ sW ag]
   rw [ad3,g8];constructor
   ·omega
   ·intro h;have:=yc hw (c+1) c k ag aA h;omega
  ·rw [ad3,F3 hw _ _ _ ag ag]
   simp only [g8];constructor
   ·rintro (rfl|⟨j,aK,rfl,aq⟩)
    ·exact C8 hw aA
    ·exact aq
   ·intro h;exact .inr ⟨c-3,by omega,by omega,by rw [show 3+(c-3)=c by omega];exact h⟩
mutual
def oc:aj→Int
 | .mk _ _ _ _ _ ks=>1+kJ ks
def kJ:List aj→Int
 | []=>0
 | x::r=>oc x+kJ r
end
mutual
def m1:aj→Int→Int
 | .mk _ _ _ _ _ ks,fL=>o2 ks fL 1
def o2:List aj→Int→Int→Int
 | [],_,n=>n
 | x::r,fL,n=>if n≤fL then o2 r fL (n+m1 x (fL-n)) else n
end
mutual
def m2:aj→Int
 | .mk _ _ _ _ _ ks=>l1 0 ks+1
def l1 (m:Int):List aj→Int
 | []=>m
 | x::r=>l1 (max m (m2 x)) r
end
theorem KJ (f:aj) (m:Int):m1 f m=o2 f.kids m 1:=by cases f;rw [m1];rfl
theorem Tj (f:aj):m2 f=l1 0 f.kids+1:=by cases f;rw [m2];rfl
mutual
theorem C':∀ f:aj,1≤oc f∧oc f≤(f.size:Int)
  | .mk _ _ p _ _ ks=>by
    have:=uK ks;rw [oc,aj.size];push_cast;omega
theorem uK:∀ l:List aj,0≤kJ l∧kJ l≤(aj.hv l:Int)
  | []=>by rw [kJ];exact ⟨ai0 _,by simp⟩
  | x::r=>by
    have U:=C' x;have ae:=uK r;rw [kJ,aj.hv];push_cast;omega
end
mutual
theorem F5:∀ (f:aj) (fL:Int),(oc f≤fL→m1 f fL=oc f)∧(oc f>fL→m1 f fL>fL)∧m1 f fL≤oc f∧1≤m1 f fL
  | .mk _ _ _ _ _ ks,fL=>by
    rw [oc,m1];exact KK ks fL 1
theorem KK:∀ (l:List aj) (fL n:Int),(n+kJ l≤fL→o2 l fL n=n+kJ l)∧(n+kJ l>fL→o2 l fL n>fL)∧o2 l fL n≤n+kJ l∧n≤o2 l fL n
  | [],fL,n=>by rw [o2,kJ];omega
  | x::r,fL,n=>by
    have U:=F5 x (fL-n);have ae:=KK r fL (n+m1 x (fL-n));have an:=C' x;have bd:=uK r;rw [o2,kJ];split<;>omega
end
theorem F6:∀ (l:List aj) (m:Int),m≤l1 m l
 | [],m=>by rw [l1];exact ai0 _
 | x::r,m=>by rw [l1];have:=F6 r (max m (m2 x));omega
theorem Da:∀ (l:List aj) (m d:Int),l1 m l≤d↔m≤d∧∀ x∈l,m2 x≤d
  | [],m,d=>by rw [l1];simp
  | x::r,m,d=>by
    rw [l1,Da r];constructor
    · rintro ⟨U,ae⟩
      refine ⟨by omega,fun y ay=>?_⟩;rcases ad1.1 ay with rfl|ay
      · omega
      · exact ae y ay
    · rintro ⟨U,ae⟩
      exact ⟨by have:=ae x i7;omega,fun y ay=>ae y (i5 _ ay)⟩
mutual
theorem F7:∀ f:aj,1≤m2 f∧m2 f≤(f.size:Int)
  | .mk _ _ p _ _ ks=>by
    have U:=Da ks 0 (aj.hv ks:Int);have ae:=F6 ks 0;rw [m2,aj.size]
    have:l1 0 ks≤(aj.hv ks:Int):=U.2 ⟨by omega,fun x ab=>by
      have:=KL ks x ab
      have:=aj.hx ab
      omega⟩
    push_cast;omega
theorem KL:∀ (l:List aj),∀ x∈l,1≤m2 x∧m2 x≤(x.size:Int)
  | y::r,x,h=>by
    rcases ad1.1 h with h|h
    · rw [h];exact F7 y
    · exact KL r x h
end
mutual
theorem KM:∀ (f:aj) (w:bx) (d:Nat) (k:Int),((e1 w d k f).1=true↔oc f≤k∧m2 f≤d∧gi w f=true)∧((e1 w d k f).1=true→(e1 w d k f).2=k-oc f)
  | .mk o a p c n ks,w,d,k=>by
    have au:=uK ks;have ax:=F6 ks 0;rw [e1,oc,m2,gi];split
    · rename_i h
      simp only [ag',g8] at h;refine ⟨⟨fun h=>nQ,fun ⟨U,ae,_⟩=>by omega⟩,fun h=>nQ⟩
    · rename_i h
      simp only [ag',g8,not_or] at h;have a6:=KN ks w (d-1) (k-1) ag;have e:l1 0 ks≤((d-1:Nat):Int)↔l1 0 ks+1≤(d:Int):=by omega
      split
      · rename_i az
        rw [az,f0];refine ⟨?_,fun h=>by rw [a6.2 h];omega⟩;rw [a6.1];constructor
        · rintro ⟨U,ae,an⟩;exact ⟨by omega,e.1 ae,an⟩
        · rintro ⟨U,ae,an⟩;exact ⟨by omega,e.2 ae,an⟩
      · rename_i az
        refine ⟨⟨fun h=>nQ,fun ⟨_,_,h⟩=>?_⟩,fun h=>nQ⟩;rw [f7] at h;exact absurd h.1 az
theorem KN:∀ (l:List aj) (w:bx) (d:Nat) (k:Int),0≤k→((gX w d k l).1=true↔kJ l≤k∧l1 0 l≤d∧j5 w l=true)∧((gX w d k l).1=true→(gX w d k l).2=k-kJ l)
  | [],w,d,k,aD=>by
    rw [gX,kJ,l1,j5];exact ⟨⟨fun _=>⟨aD,by omega,rfl⟩,fun _=>rfl⟩,fun _=>by simp⟩
  | x::r,w,d,k,aD=>by
    have ab:=KM x w d k;have aE:=C' x;have aF:=uK r;rw [gX,kJ,j5,Da];split
    · rename_i h
      obtain ⟨U,ae,an⟩:=ab.1.1 h;have he:=ab.2 h;rw [he];have a6:=KN r w d (k-oc x) ag;refine ⟨?_,fun h=>by rw [a6.2 h];omega⟩;rw [a6.1,an,f0,Da];constructor
      · rintro ⟨di,a2,a3⟩
        refine ⟨by omega,⟨a2.1,fun y ay=>?_⟩,a3⟩;rcases ad1.1 ay with rfl|ay
        · exact ae
        · exact a2.2 y ay
      · rintro ⟨di,a2,a3⟩
        exact ⟨by omega,⟨a2.1,fun y ay=>a2.2 y (i5 _ ay)⟩,a3⟩
    · rename_i h
      refine ⟨⟨fun h=>nQ,fun ⟨di,a2,a3⟩=>?_⟩,fun h=>nQ⟩;rw [f7] at a3;exact absurd (ab.1.2 ⟨by omega,a2.2 x i7,a3.1⟩) h
end
theorem Tk (w:bx) (f:aj):(decide (m1 f 24≤24)&&(decide (m2 f≤12)&&gi w f))=h' w f:=by
 have U:=(KM f w 12 24).1;have ae:=F5 f 24;have an:m1 f 24≤24↔oc f≤24:=by omega
 unfold h';rw [ad3,U];simp only [f7,g8,an];simp
end Go.dv
namespace Go.Proofs.YtnafpeohfbglmaaGreat
open Go.cW Go.dv
def bu:Nat:=1099511627776
theorem bC:bu=1099511627776:=rfl
theorem bV {α:Type} {f:α→af} {l:List α} {j:Nat} (h:j<l.length):∃ x,l[j]? = some x∧(l.map f)[j]? = some (f x):=
 ⟨l[j],g6 h,by simp [h]⟩
theorem drop_cons {α:Type} {l:List α} {j:Nat} {x:α} (h:l[j]? = some x):l.drop j=x::l.drop (j+1):=by
 obtain ⟨U,ae⟩:=ac3.1 h;rw [List.drop_eq_getElem_cons U,ae]
theorem ef {α:Type} {l:List α} {j:Nat} (h:l.length≤j):l.drop j=[]:=List.drop_eq_nil_of_le h
theorem iH {α:Type} {l:List α} {j:Nat} {x:α} (h:l[j]? = some x):l.take (j+1)=l.take j++[x]:=by
 rw [ak6,h];rfl
theorem qM {α:Type} {l:List α} {j:Nat} {x:α} (h:l[j]? = some x):j<l.length:=(ac3.1 h).1
def bb (n:Int):af := .int .i64 n
def bg (l:List Int):af := .aC 1 (l.map bb) .bc
def cV (g:List (List Int)):af := .aC 1 (g.map bg) .bc
theorem KO (l:List Int) (n:Int) (aB:l.length<bu):aR d0 92 [bg l,.int .i64 n] (.int .i64 (match l.findIdx? (· == n) with
  | some i=>(i:Int)
  | none => -1)):=by
 have aq:=bC;refine aR.bj ai Tryz.func92 C C fun s I=>?_
 unfold bg;refine gg ?_;refine ad.b0 [0,1,7] C I (σ:=Nat) (fun j=>[(8,.int .i64 (j:Int))]) (fun _=>[]) (fun j=>j≤l.length∧∀ i,i<j→l[i]? ≠ some n) (fun j=>l.length-j) 0 ⟨g7 _,fun i aQ=>absurd aQ (al' _)⟩ (ck C) aY ?_;rintro j ⟨aK,ak⟩ I;refine b2 ?_;refine ad.cond C (fun ar=>?_) (fun aV=>?_);rotate_left;have aV:j=l.length:=by
  have:l.length≤j:=by simpa using aV
  omega
 ·have ab:l.findIdx? (· == n)=none:=by
   rw [af8];intro z bO;obtain ⟨i,aQ⟩:=ag3 bO;have U:=qM aQ;have ae:=ak i ag;simp only [beq_eq_false_iff_ne];intro e;subst e;exact ae aQ
  rw [ab];refine dB ?_;exact bm I
 have ar:j<l.length:=by simpa using ar
 obtain ⟨y,ay,c'⟩:=bV (f:=bb) ar;unfold bb at c';refine bB ?_;refine ad.cond C (fun az=>?_) (fun az=>?_)
 ·have az:n=y:=by simpa using az
  subst az;have ab:l.findIdx? (· == n)=some j:=by
   rw [ae8];refine ⟨ar,by simpa using (ac3.1 ay).2,fun i aQ=>?_⟩;have:=ak i aQ;rw [g6 ag] at this;simpa using this
  rw [ab];refine jg ?_;exact bm I
 ·have az:n≠y:=by simpa using az
  refine fR ?_;refine bn.mk (j+1) I ⟨ar,?_⟩ b' aY (by show l.length-(j+1)<l.length-j;omega);intro i aQ;rcases af1.1 aQ with aQ|rfl
  ·exact ak i aQ
  ·rw [ay];intro e;cases e;exact az C
theorem KP (l:List Int) (n:Int):decide ((match l.findIdx? (· == n) with
  | some i=>(i:Int)
  | none => -1)≥0)=l.contains n:=by
 cases h:l.findIdx? (· == n) with
 | none=>
  rw [af8] at h;have:n∉l:=fun az=>by have:=h n az;simp at this
  simp [this]
 | some i=>
  rw [ae8] at h;obtain ⟨aQ,U,_⟩:=h;have e:l[i]=n:=by simpa using U
  have:n∈l:=by rw [← e];exact aj6 aQ
  simp [this]
theorem yd (l:List Int) (n:Int) (aB:l.length<bu):aR d0 43 [bg l,.int .i64 n] (.bool (l.contains n)):=by
 rw [← KP];refine aR.bj ai Tryz.func43 C C fun s I=>?_
 refine dL ?_;refine aa.dQ C C C C C (KO l n aB) ?_;refine eD ?_;exact bm I
theorem KQ (l:List Int) (n:Int) (aB:l.length<bu):aR d0 218 [bg l,.int .i64 n] (.bool (l.contains n)):=by
 have aq:=bC;refine aR.bj ai Tryz.func218 C C fun s I=>?_
 unfold bg;refine gg ?_;refine ad.b0 [0,1] C I (σ:=Nat) (fun j=>[(5,.int .i64 (j:Int))]) (fun _=>[]) (fun j=>j≤l.length∧∀ i,i<j→l[i]? ≠ some n) (fun j=>l.length-j) 0 ⟨g7 _,fun i aQ=>absurd aQ (al' _)⟩ (ck C) aY ?_;rintro j ⟨aK,ak⟩ I;refine b2 ?_;refine ad.cond C (fun ar=>?_) (fun aV=>?_);rotate_left;have aV:j=l.length:=by
  have:l.length≤j:=by simpa using aV
  omega
 ·have ab:l.contains n=false:=by
   rw [ad0];intro hm;have hm:n∈l:=by simpa using hm
   obtain ⟨i,aQ⟩:=ag3 hm;exact ak i (by have:=qM aQ;omega) aQ
  rw [ab];refine dB ?_;exact bm I
 have ar:j<l.length:=by simpa using ar
 obtain ⟨y,ay,c'⟩:=bV (f:=bb) ar;unfold bb at c';refine dC ?_;refine ad.cond C (fun az=>?_) (fun az=>?_)
 ·have az:y=n:=by simpa using az
  subst az;have ab:l.contains y=true:=by simpa using d5 ay
  rw [ab];refine jg ?_;exact bm I
 ·have az:y≠n:=by simpa using az
  refine fR ?_;refine bn.mk (j+1) I ⟨ar,?_⟩ b' aY (by show l.length-(j+1)<l.length-j;omega);intro i aQ;rcases af1.1 aQ with aQ|rfl
  ·exact ak i aQ
  ·rw [ay];intro e;cases e;exact az C
theorem Aj (a b:List Int) (aB:a.length<bu) (Ak:b.length<bu):aR d0 37 [bg a,bg b] (.bool (a==b)):=by
 have aq:=bC;refine aR.bj ai Tryz.func37 C C fun s I=>?_
 unfold bg;refine b2 ?_;refine ad.cond C (fun h=>?_) (fun h=>?_)
 ·have cO:(a==b)=false:=by
   rw [beq_eq_false_iff_ne];intro e;simp [e] at h
  rw [cO];refine gH ?_;exact bm I
 ·have eW:a.length=b.length:=by simp at h;omega
  refine jh ?_;refine ad.b0 [0,1,12] C I (σ:=Nat) (fun j=>[(13,.int .i64 (j:Int))]) (fun _=>[]) (fun j=>j≤a.length∧(a==b)=(a.drop j==b.drop j)) (fun j=>a.length-j) 0 ⟨g7 _,rfl⟩ (ck C) aY ?_;rintro j ⟨aK,ak⟩ I;refine b2 ?_;refine ad.cond C (fun ar=>?_) (fun aV=>?_);rotate_left;have aV:j=a.length:=by
   have:a.length≤j:=by simpa using aV
   omega
  ·rw [ef ag,ef ag] at ak
   rw [ak];refine dB ?_;exact bm I
  have ar:j<a.length:=by simpa using ar
  obtain ⟨x,ab,bL⟩:=bV (f:=bb) ar;obtain ⟨y,ay,c'⟩:=bV (f:=bb) (by omega:j<b.length);rw [drop_cons ab,drop_cons ay,at1] at ak;refine jh ?_;refine ad.qD ai mixed C (bf.run C ?_);refine bf.idx 2 j C C C C C C C C C C C C C bL C ?_;refine bf.idx 6 j C C C C C C C C C C C C C c' C ?_;refine bf.run C (bf.done C ?_);refine ad.cond C (fun az=>?_) (fun az=>?_)
  ·have az:x≠y:=by simpa using az
   rw [ak,beq_false_of_ne az];refine jg ?_;exact bm I
  ·have az:x=y:=by simpa using az
   subst az;rw [beq_self_eq_true,f0] at ak;refine fR ?_;refine bn.mk (j+1) I ⟨ar,ak⟩ b' aY CV
theorem tt (a b:List Int) (aB:a.length<bu) (Ak:b.length<bu):aR d0 24 [bg a,bg b] (.bool (a==b)):=by
 have aq:=bC;refine aR.bj ai Tryz.func24 C C fun s I=>?_
 unfold bg;refine b2 ?_;refine ad.cond C (fun h=>?_) (fun h=>?_)
 ·have cO:(a==b)=false:=by
   rw [beq_eq_false_iff_ne];intro e;simp [e] at h
  rw [cO];refine gH ?_;exact bm I
 ·have eW:a.length=b.length:=by simp at h;omega
  refine jh ?_;refine ad.b0 [0,1,12] C I (σ:=Nat) (fun j=>[(13,.int .i64 (j:Int))]) (fun _=>[]) (fun j=>j≤a.length∧(a==b)=(a.drop j==b.drop j)) (fun j=>a.length-j) 0 ⟨g7 _,rfl⟩ (ck C) aY ?_;rintro j ⟨aK,ak⟩ I;refine b2 ?_;refine ad.cond C (fun ar=>?_) (fun aV=>?_);rotate_left;have aV:j=a.length:=by
   have:a.length≤j:=by simpa using aV
   omega
  ·rw [ef ag,ef ag] at ak
   rw [ak];refine dB ?_;exact bm I
  have ar:j<a.length:=by simpa using ar
  obtain ⟨x,ab,bL⟩:=bV (f:=bb) ar;obtain ⟨y,ay,c'⟩:=bV (f:=bb) (by omega:j<b.length);rw [drop_cons ab,drop_cons ay,at1] at ak;refine jh ?_;refine ad.qD ai mixed C (bf.run C ?_);refine bf.idx 2 j C C C C C C C C C C C C C bL C ?_;refine bf.idx 6 j C C C C C C C C C C C C C c' C ?_;refine bf.run C (bf.done C ?_);refine ad.cond C (fun az=>?_) (fun az=>?_)
  ·have az:x≠y:=by simpa using az
   rw [ak,beq_false_of_ne az];refine jg ?_;exact bm I
  ·have az:x=y:=by simpa using az
   subst az;rw [beq_self_eq_true,f0] at ak;refine fR ?_;refine bn.mk (j+1) I ⟨ar,ak⟩ b' aY CV
theorem KR {α:Type} (q:α→Bool) {l:List α} {j:Nat} {x:α} (h:l[j]? = some x):(l.take (j+1)).filter q=(l.take j).filter q++(if q x then [x] else []):=by
 rw [iH h,List.filter_append];congr 1;cases bq:q x<;>simp [bq]
theorem KS (fv:af) (q:Int→Bool) (bq:∀ y,eE d0 fv [.int .i64 y] (.bool (q y))) (l:List Int) (aB:l.length<bu):aR d0 307 [bg l,fv] (bg (l.filter q)):=by
 have aq:=bC;obtain ⟨xs,cY⟩:∃ xs:Nat→List af,∀ j,xs j=((l.take j).filter q).map bb:=⟨_,fun _=>rfl⟩;have br:xs 0=[]:=by rw [cY];rfl
 have e7:∀ j,(xs j).length≤l.length:=fun j=>by
  rw [cY,f6];exact ai' (ag6 _ _) (ai6 _ _)
 refine aR.bj ai Tryz.func307 C C fun s I=>?_
 unfold bg;refine gg ?_;refine ad.h2 I 3 1 0 fun I=>?_
 refine ad.b0 [1,8,9] C I (σ:=Nat×bM) (fun q=>[(10,.int .i64 (q.1:Int)),(5,.aC 1 (xs q.1) q.2)]) (fun q=>[(q.2,.row 3 1 (xs q.1).length)]) (fun q=>q.1≤l.length) (fun q=>l.length-q.1) (0,.nil) (g7 _) ⟨⟨_,rfl,aM⟩,⟨_,rfl,by rw [br];exact aS.nil gW⟩,trivial⟩ (by rw [br];exact aH.du _) ?_;rintro ⟨j,own⟩ aK I;simp only at aK I ⊢;refine b2 ?_;refine ad.cond C (fun ar=>?_) (fun aV=>?_);rotate_left;have aV:j=l.length:=by
  have:l.length≤j:=by simpa using aV
  omega
 ·subst aV
  have he:xs l.length=(l.filter q).map bb:=by rw [cY,ac6]
  rw [he];refine dB ?_;exact Fin.cp I C aS.bc
 have ar:j<l.length:=by simpa using ar
 obtain ⟨y,ay,c'⟩:=bV (f:=bb) ar;have au:=cY (j+1);rw [KR q ay,ac2,← cY] at au;have lp:=e7 j;have Tl:=bq y;unfold bb at c';refine dC ?_;refine aa.mr C C C C C C Tl ?_;cases av:q y with
 | true=>
  have au:xs (j+1)=xs j++[.int .i64 y]:=by rw [au,av];rfl
  have dd:(xs (j+1)).length=(xs j).length+1:=by rw [au];simp
  refine bB ?_;refine aa.gf ai I C C C C C C C et C C C C C C C C a1 hc j2 ag (fun bR I=>?_);refine fu ?_;refine bn.mk (j+1,.own bR) I ar j1 (by show aH _ [(_,.row _ _ (xs (j+1)).length)] _;rw [dd];exact aH.du _) (by show l.length-(j+1)<l.length-j;omega)
 | false=>
  have au:xs (j+1)=xs j:=by rw [au,av];simp
  refine bB ?_;refine bn.mk (j+1,own) I ar j1 (by show aH _ [(_,.row _ _ (xs (j+1)).length)] _;rw [au];exact aH.du _) (by show l.length-(j+1)<l.length-j;omega)
theorem Tm (y:Int):eE d0 (.func 316 [] []) [.int .i64 y] (.bool (y != 0)):=by
 refine eE.fp (first:=[]) (cap:=[]) ?_;refine aR.bj ai Tryz.func316 C C fun s I=>?_
 refine gH ?_;exact bm I
theorem Tn (l:List Int) (aB:l.length<bu):aR d0 306 [bg l] (bg (fw 0 l)):=by
 refine aR.bj ai Tryz.func306 C C fun s I=>?_
 refine dL ?_;refine aa.dQ C C C C C (KS _ _ Tm l aB) ?_;refine eD ?_;exact bm I
theorem F8 (l:List Int) (n:Int) (aB:l.length<bu):aR d0 272 [bg l,.int .i64 n] (bg (fw n l)):=by
 have aq:=bC;obtain ⟨xs,cY⟩:∃ xs:Nat→List af,∀ j,xs j=(fw n (l.take j)).map bb:=⟨_,fun _=>rfl⟩;have br:xs 0=[]:=by rw [cY];rfl
 have e7:∀ j,(xs j).length≤l.length:=fun j=>by
  rw [cY,f6];exact ai' (x' _ _) (ai6 _ _)
 refine aR.bj ai Tryz.func272 C C fun s I=>?_
 unfold bg;refine gg ?_;refine ad.h2 I 3 1 0 fun I=>?_
 refine ad.b0 [0,1] C I (σ:=Nat×bM) (fun q=>[(6,.int .i64 (q.1:Int)),(5,.aC 1 (xs q.1) q.2)]) (fun q=>[(q.2,.row 3 1 (xs q.1).length)]) (fun q=>q.1≤l.length) (fun q=>l.length-q.1) (0,.nil) (g7 _) ⟨⟨_,rfl,aM⟩,⟨_,rfl,by rw [br];exact aS.nil gW⟩,trivial⟩ (by rw [br];exact aH.du _) ?_;rintro ⟨j,own⟩ aK I;simp only at aK I ⊢;refine b2 ?_;refine ad.cond C (fun ar=>?_) (fun aV=>?_);rotate_left;have aV:j=l.length:=by
  have:l.length≤j:=by simpa using aV
  omega
 ·subst aV
  have he:xs l.length=(fw n l).map bb:=by rw [cY,ac6]
  rw [he];refine dB ?_;exact Fin.cp I C aS.bc
 have ar:j<l.length:=by simpa using ar
 obtain ⟨y,ay,c'⟩:=bV (f:=bb) ar;have au:=cY (j+1);unfold fw at au;rw [KR _ ay,ac2] at au;have au:xs (j+1)=xs j++List.map bb (if y != n then [y] else []):=by rw [au,cY];rfl
 have lp:=e7 j;unfold bb at c';refine dC ?_;refine ad.cond C (fun av=>?_) (fun av=>?_)
 ·have av:(y != n)=true:=by simpa using av
  have au:xs (j+1)=xs j++[.int .i64 y]:=by rw [au,av];rfl
  have dd:(xs (j+1)).length=(xs j).length+1:=by rw [au];simp
  refine dC ?_;refine aa.gf ai I C C C C C C C et C C C C C C C C a1 hc j2 ag (fun bR I=>?_);refine fu ?_;refine bn.mk (j+1,.own bR) I ar j1 (by show aH _ [(_,.row _ _ (xs (j+1)).length)] _;rw [dd];exact aH.du _) (by show l.length-(j+1)<l.length-j;omega)
 ·have av:(y != n)=false:=by simpa using av
  have au:xs (j+1)=xs j:=by rw [au,av];simp
  refine fR ?_;refine bn.mk (j+1,own) I ar j1 (by show aH _ [(_,.row _ _ (xs (j+1)).length)] _;rw [au];exact aH.du _) (by show l.length-(j+1)<l.length-j;omega)
theorem KT (g:List (List Int)) (aw:g.length<bu):aR d0 274 [cV g] (.bool (mw g)):=by
 have aq:=bC;refine aR.bj ai Tryz.func274 C C fun s I=>?_
 unfold cV;unfold mw;refine b2 ?_;refine ad.cond C (fun h=>?_) (fun h=>?_)
 ·have U:decide (g.length≤16)=false:=by simp at h ⊢;omega
  rw [U];refine gH ?_;exact bm I
 have U:decide (g.length≤16)=true:=by simp at h ⊢;omega
 have nT:g.length≤16:=of_decide_eq_true U;rw [U,f0];refine jh ?_;refine ad.b0 [10,11] C I (σ:=Nat) (fun j=>[(12,.int .i64 (j:Int))]) (fun _=>[]) (fun j=>j≤g.length∧n7 0 g=n7 j (g.drop j)) (fun j=>g.length-j) 0 ⟨g7 _,rfl⟩ (ck C) aY ?_;rintro j ⟨aK,ak⟩ I;refine b2 ?_;refine ad.cond C (fun ar=>?_) (fun aV=>?_);rotate_left;have aV:j=g.length:=by
  have:g.length≤j:=by simpa using aV
  omega
 ·rw [ef ag,n7] at ak
  rw [ak];refine dB ?_;exact bm I
 have ar:j<g.length:=by simpa using ar
 obtain ⟨l,ay,c'⟩:=bV (f:=bg) ar;rw [drop_cons ay,n7] at ak;unfold bg at c';refine bB ?_;refine ad.cond C (fun h=>?_) (fun h=>?_)
 ·have ae:decide (l.length≤3)=false:=by simp at h ⊢;omega
  rw [ak,ae];refine jg ?_;exact bm I
 have ae:decide (l.length≤3)=true:=by simp at h ⊢;omega
 have nU:l.length≤3:=of_decide_eq_true ae;rw [ae,f0] at ak;refine jh ?_;refine ad.b0 [3,4,10,11,12,20,21] C I (σ:=Nat) (fun k=>[(22,.int .i64 (k:Int))]) (fun _=>[]) (fun k=>k≤l.length∧mv 3 j [] l=mv 3 j (l.take k) (l.drop k)) (fun k=>l.length-k) 0 ⟨g7 _,rfl⟩ (ck C) aY ?_;rintro k ⟨aD,bh⟩ I;refine b2 ?_;refine ad.cond C (fun cC=>?_) (fun dm=>?_);rotate_left
 ·have dm:l.length≤k:=by simpa using dm
  rw [ef dm,mv] at bh;rw [bh,f0] at ak;refine bB ?_;refine bn.mk (j+1) I ⟨ar,ak⟩ b' aY tg
 have cC:k<l.length:=by simpa using cC
 obtain ⟨c,aA,m3⟩:=bV (f:=bb) cC;rw [drop_cons aA,mv] at bh;rw [bh] at ak;unfold bb at m3;have w:H1 .i64 (3+(j:Int))=3+(j:Int):=eo ag ag;refine dC ?_;by_cases an:c<3
 ·rw [t8 (show ¬ c≥3 by omega),f5,f5] at ak
  refine aa.ds 29 C (i6 an) ?_;refine e5 ?_;rw [ak];exact bm I
 rw [i6 (show c≥3 by omega),f0] at ak bh;refine aa.c2 29 C (t8 an) ?_;refine dS ?_;by_cases bd:c≥3+(j:Int)
 ·rw [t8 (show ¬ c<3+(j:Int) by omega),f5] at ak
  refine aa.ds 35 C (by rw [w];exact i6 bd) ?_;refine e5 ?_;rw [ak];exact bm I
 rw [i6 (show c<3+(j:Int) by omega),f0] at ak bh;refine aa.c2 35 C (by rw [w];exact t8 bd) ?_;have ib:=yd (l.take k) c (by have:=ai6 k l;omega);unfold bg at ib;rw [ao6] at ib;refine dS ?_;refine aa.slice ai 0 k C C C C C C C C (.inr C) (.inl ⟨rfl,rfl⟩) (.inr ⟨_,_,rfl,rfl⟩) (.inl ⟨rfl,rfl⟩) (g7 _) (by simpa using aD) ?_;rw [aj'];refine dS ?_;refine aa.dQ C C C C C ib ?_;cases bD:(l.take k).contains c with
 | true=>
  rw [bD,ah7,f5] at ak;refine e5 ?_;rw [ak];exact bm I
 | false=>
  rw [bD,ah0,f0,← iH aA] at ak bh;refine bB ?_;exact bn.mk (k+1) I ⟨cC,by rw [bh]⟩ b' aY (by show l.length-(k+1)<l.length-k;omega)
theorem To (g:List (List Int)) (aw:g.length<bu):aR d0 180 [cV g] (.bool (mw g)):=by
 have aq:=bC;refine aR.bj ai Tryz.func180 C C fun s I=>?_
 unfold cV;unfold mw;refine b2 ?_;refine ad.cond C (fun h=>?_) (fun h=>?_)
 ·have U:decide (g.length≤16)=false:=by simp at h ⊢;omega
  rw [U];refine gH ?_;exact bm I
 have U:decide (g.length≤16)=true:=by simp at h ⊢;omega
 have nT:g.length≤16:=of_decide_eq_true U;rw [U,f0];refine jh ?_;refine ad.b0 [0] C I (σ:=Nat) (fun j=>[(3,.int .i64 (j:Int))]) (fun _=>[]) (fun j=>j≤g.length∧n7 0 g=n7 j (g.drop j)) (fun j=>g.length-j) 0 ⟨g7 _,rfl⟩ (ck C) aY ?_;rintro j ⟨aK,ak⟩ I;refine b2 ?_;refine ad.cond C (fun ar=>?_) (fun aV=>?_);rotate_left;have aV:j=g.length:=by
  have:g.length≤j:=by simpa using aV
  omega
 ·rw [ef ag,n7] at ak
  rw [ak];refine dB ?_;exact bm I
 have ar:j<g.length:=by simpa using ar
 obtain ⟨l,ay,c'⟩:=bV (f:=bg) ar;rw [drop_cons ay,n7] at ak;unfold bg at c';refine dC ?_;refine ad.cond C (fun h=>?_) (fun h=>?_)
 ·have ae:decide (l.length≤3)=false:=by simp at h ⊢;omega
  rw [ak,ae];refine jg ?_;exact bm I
 have ae:decide (l.length≤3)=true:=by simp at h ⊢;omega
 have nU:l.length≤3:=of_decide_eq_true ae;rw [ae,f0] at ak;refine jh ?_;refine ad.b0 [0,3] C I (σ:=Nat) (fun k=>[(4,.int .i64 (k:Int))]) (fun _=>[]) (fun k=>k≤l.length∧mv 3 j [] l=mv 3 j (l.take k) (l.drop k)) (fun k=>l.length-k) 0 ⟨g7 _,rfl⟩ (ck C) aY ?_;rintro k ⟨aD,bh⟩ I;refine dC ?_;refine ad.cond C (fun cC=>?_) (fun dm=>?_);rotate_left
 ·have dm:l.length≤k:=by simpa using dm
  rw [ef dm,mv] at bh;rw [bh,f0] at ak;refine bB ?_;refine bn.mk (j+1) I ⟨ar,ak⟩ b' aY tg
 have cC:k<l.length:=by simpa using cC
 obtain ⟨c,aA,m3⟩:=bV (f:=bb) cC;rw [drop_cons aA,mv] at bh;rw [bh] at ak;have ib:=KQ (l.take k) c (by have:=ai6 k l;omega);unfold bg at ib;rw [ao6] at ib;unfold bb at m3;have w:H1 .i64 (3+(j:Int))=3+(j:Int):=eo ag ag;refine jh ?_;refine ad.qD ai mixed C (bf.runs (is:=[0,1,4]) C ?_);refine bf.idx 2 j C C C C C C C C C C C C C c' C ?_;refine bf.runs (is:=[3]) C ?_;refine bf.idx 5 k C C C C C C C C C C C C C m3 C ?_;refine bf.runs (is:=[6,7,8]) C ?_;by_cases an:c<3
 ·rw [t8 (show ¬ c≥3 by omega),f5,f5] at ak
  refine bf.ds 37 C (i6 an) ?_;refine bf.run C (bf.done C ?_);refine e5 ?_;rw [ak];exact bm I
 rw [i6 (show c≥3 by omega),f0] at ak bh;refine bf.c2 37 C (t8 an) ?_;refine bf.runs (is:=[9,10,13,16,17]) C ?_;refine bf.idx 11 j C C C C C C C C C C C C C c' C ?_;refine bf.runs (is:=[12]) C ?_;refine bf.idx 14 k C C C C C C C C C C C C C m3 C ?_;refine bf.runs (is:=[15,18,19,20]) C ?_;by_cases bd:c≥3+(j:Int)
 ·rw [t8 (show ¬ c<3+(j:Int) by omega),f5] at ak
  refine bf.ds 49 C (by rw [w];exact i6 bd) ?_;refine bf.run C (bf.done C ?_);refine e5 ?_;rw [ak];exact bm I
 rw [i6 (show c<3+(j:Int) by omega),f0] at ak bh;refine bf.c2 49 C (by rw [w];exact t8 bd) ?_;refine bf.run C ?_;refine bf.idx 23 j C C C C C C C C C C C C C c' C ?_;refine bf.idx 29 j C C C C C C C C C C C C C c' C ?_;refine bf.run C ?_;refine bf.idx 32 k C C C C C C C C C C C C C m3 C ?_;refine bf.slice 26 0 k C C C C C C C C C C (.inr C) (.inl ⟨rfl,rfl⟩) (.inr ⟨_,_,rfl,rfl⟩) (.inl ⟨rfl,rfl⟩) (g7 _) (by simpa using aD) ?_;rw [aj'];refine bf.run C ?_;refine bf.CQ (i:=34) C C C C C C C ib ?_;refine bf.run C ?_;refine bf.done C ?_;cases bD:(l.take k).contains c with
 | true=>
  rw [bD,ah7,f5] at ak;refine e5 ?_;rw [ak];exact bm I
 | false=>
  rw [bD,ah0,f0,← iH aA] at ak bh;refine bB ?_;exact bn.mk (k+1) I ⟨cC,by rw [bh]⟩ b' aY (by show l.length-(k+1)<l.length-k;omega)
theorem Tp (all:List (List Int)) (c:Int) (aB:all.length<bu) (a8:∀ l∈all,l.length<bu):aR d0 273 [cV all,.int .i64 c] (.bool (free all c)):=by
 have aq:=bC;refine aR.bj ai Tryz.func273 C C fun s I=>?_
 unfold cV;refine gg ?_;refine ad.b0 [0,1] C I (σ:=Nat) (fun j=>[(5,.int .i64 (j:Int))]) (fun _=>[]) (fun j=>j≤all.length∧free all c=free (all.drop j) c) (fun j=>all.length-j) 0 ⟨g7 _,rfl⟩ (ck C) aY ?_;rintro j ⟨aK,ak⟩ I;refine b2 ?_;refine ad.cond C (fun ar=>?_) (fun aV=>?_);rotate_left;have aV:j=all.length:=by
  have:all.length≤j:=by simpa using aV
  omega
 ·rw [ef ag] at ak
  rw [ak];refine dB ?_;exact bm I
 have ar:j<all.length:=by simpa using ar
 obtain ⟨l,ay,c'⟩:=bV (f:=bg) ar;rw [drop_cons ay] at ak;have my:=a8 l (d5 ay);have ak:free all c=(!(l.drop 1).contains c&&free (all.drop (j+1)) c):=ak;have ib:=KQ (l.drop 1) c cE;unfold bg at ib c';rw [List.map_drop] at ib;refine dC ?_;cases l with
 | nil=>
  refine aa.c2 18 C C ?_;refine bB ?_;refine bn.mk (j+1) I ⟨ar,ak⟩ b' aY (by show all.length-(j+1)<all.length-j;omega)
 | cons x r=>
  refine aa.ds 18 C ba ?_;refine dC ?_;refine aa.slice ai 1 ((x::r).map bb).length C C C C C C C C (.inr C) (.inr ⟨_,_,rfl,rfl⟩) (.inl ⟨rfl,rfl,rfl⟩) (.inl ⟨rfl,rfl⟩) ba (i0 _) ?_;rw [ac6];refine dS ?_;refine aa.dQ C C C C C ib ?_;cases bD:((x::r).drop 1).contains c with
  | true=>
   rw [bD,ah7,f5] at ak;rw [ak];refine e5 ?_;exact bm I
  | false=>
   rw [bD,ah0,f0] at ak;refine bB ?_;refine bn.mk (j+1) I ⟨ar,ak⟩ b' aY (by show all.length-(j+1)<all.length-j;omega)
structure qN (n b:Nat) (all:List (List Int)):Prop where
 len:all.length≤n
 each:∀ l∈all,l.length≤b∧∀ c∈l,0≤c
theorem qN.fw {n b:Nat} {all:List (List Int)} (h:qN n b all) (c:Int):qN n b (all.map (fw c)):=by
 refine ⟨by rw [f6];exact h.len,fun l aB=>?_⟩;obtain ⟨lv,U,rfl⟩:=ad7.1 aB;obtain ⟨ae,an⟩:=h.each lv U;exact ⟨ai' (x' _ _) ae,fun c aA=>an c (af6.1 aA).1⟩
theorem Db {n b:Nat} {all:List (List Int)} (h:qN n b all):total all≤n*b:=by
 obtain ⟨U,ae⟩:=h;have:total all≤all.length*b:=by
  clear U
  induction all with
  | nil=>simp [total]
  | cons l r a6=>
   have an:=(ae l i7).1;have bd:=a6 (fun x ab=>ae x (i5 _ ab));have bD:total (l::r)=l.length+total r:=rfl;rw [bD,i8,Nat.add_mul];omega
 exact ai' this (ak3 _ U)
theorem KU {all l:List (List Int)} {j:Nat} (h:l[j]? = some []):pick all (l.drop j)=pick all (l.drop (j+1)):=by
 rw [drop_cons h];rfl
theorem KV {all l:List (List Int)} {j:Nat} {c:Int} {r:List Int} (h:l[j]? = some (c::r)):pick all (l.drop j)=if free all c then some c else pick all (l.drop (j+1)):=by
 rw [drop_cons h];rfl
theorem Tq (n b:Nat) (iP:n<1000∧b<1000) (all:List (List Int)) (hm:qN n b all):aR d0 252 [cV all] (.cu [bg (merged all).1,.bool (merged all).2]):=by
 have aq:=bC;refine aR.bj ai Tryz.func252 C C fun s I=>?_
 unfold cV;have wI:total all≤n*b:=Db hm;have Tr:n*b≤1000*1000:=Nat.mul_le_mul ag ag;refine gg ?_;refine ad.h2 I 3 1 0 fun I=>?_
 refine ad.b0 [] C I (σ:=Nat×List (List Int)×List Int×bM) (fun q=>[(0,.aC 1 (q.2.1.map bg) .bc),(4,.aC 1 (q.2.2.1.map bb) q.2.2.2)]) (fun q=>[(q.2.2.2,.row 3 1 q.2.2.1.length)])
  (fun q=>merge q.1 q.2.1 q.2.2.1=merged all∧total q.2.1<q.1∧qN n b q.2.1∧q.2.2.1.length+total q.2.1≤total all) (fun q=>q.1) (total all+1,all,[],.nil) ⟨rfl,aj5 _,hm,by simp⟩ ⟨⟨_,rfl,aM⟩,⟨_,rfl,aS.nil gW⟩,trivial⟩ (aH.du _) ?_
 rintro ⟨k,cur,acc,own⟩ ⟨ed,hH,hm,ux⟩ I;simp only at ed hH hm ux I ⊢;have ct:=hm.len;refine gg ?_;refine ad.b0 [0,4] C I (σ:=Nat×Int×Bool) (fun z=>[(5,.int .i64 z.2.1),(6,.bool z.2.2),(7,.int .i64 (z.1:Int))]) (fun _=>[(own,.row 3 1 acc.length)])
  (fun z=>z.1≤cur.length∧((z.2.1 = -1∧pick cur cur=pick cur (cur.drop z.1)∧(!z.2.2)=(cur.take z.1).all an3)∨(0≤z.2.1∧pick cur cur=some z.2.1))) (fun z=>cur.length-z.1+if z.2.1<0 then 1 else 0) (0,-1,false) ⟨g7 _,.inl ⟨rfl,rfl,rfl⟩⟩ (ck C) (aH.du _) ?_
 rintro ⟨j,gC,F9⟩ ⟨aK,ak⟩ I;simp only at aK ak I ⊢;refine jM ?_;by_cases ar:j<cur.length
 ·refine aa.ds 14 C (by simpa using ar) ?_
  refine fI ?_;refine ad.cond C (fun az=>?_) (fun az=>?_)
  ·have az:gC<0:=of_decide_eq_true az
   obtain ⟨rfl,ak,hK⟩:gC = -1∧_:=by
    rcases ak with h|h
    ·exact h
    ·omega
   obtain ⟨l,ay,c'⟩:=bV (f:=bg) ar;have KW:=hm.each l (d5 ay);have Fw:=fun c=>Tp cur c ag (fun l aB=>by have:=(hm.each l aB).1;omega)
   unfold cV at Fw;unfold bg at c';have Al:(cur.take (j+1)).all an3=((cur.take j).all an3&&l.isEmpty):=by rw [iH ay,List.all_append];simp
   refine dC ?_;cases l with
   | nil=>
    rw [KU ay] at ak;refine ad.gr C ?_;refine fR ?_;exact bn.mk (j+1,-1,F9) I ⟨ar,.inl ⟨rfl,ak,by rw [Al,← hK];simp⟩⟩ b' (aH.du _) (by show cur.length-(j+1)+1<cur.length-j+1;omega)
   | cons c r=>
    rw [KV ay] at ak;refine ad.cond C (fun _=>?_) (fun h=>absurd h ba);have KX:((c::r).map bb)[0]? = some (.int .i64 c):=rfl;refine bB ?_;refine aa.dQ C C C C C (Fw c) ?_;cases pD:free cur c with
    | true=>
     rw [pD,f9 C] at ak;have Ca:=KW.2 c i7;refine bB ?_;exact bn.mk (j+1,c,true) I ⟨ar,.inr ⟨Ca,ak⟩⟩ b' (aH.du _) (by show cur.length-(j+1)+(if c<0 then 1 else 0)<cur.length-j+1;split<;>omega)
    | false=>
     rw [pD,d9 ba] at ak;refine bB ?_;exact bn.mk (j+1,-1,true) I ⟨ar,.inl ⟨rfl,ak,by rw [Al];simp⟩⟩ b' (aH.du _) (by show cur.length-(j+1)+1<cur.length-j+1;omega)
  ·have az:¬ gC<0:=of_decide_eq_false az
   obtain ⟨ye,wJ⟩:0≤gC∧pick cur cur=some gC:=by
    rcases ak with h|h
    ·omega
    ·exact h
   have kK:¬ gC<0:=by omega
   refine dB ?_;refine ad.cond C (fun h=>absurd (of_decide_eq_true h) kK) (fun _=>?_);cases k with
   | zero=>omega
   | succ k=>
   have KY:=C3 (uI wJ);rw [merge,wJ] at ed;simp only at ed;refine dC ?_;refine aa.gf ai I C C C C C C C et C C C C C C C C a1 hc j2 ag (fun bR I=>?_);refine bB ?_;obtain ⟨xs,cY⟩:∃ xs:Nat→List af,∀ j,xs j=((cur.take j).map (fw gC)).map bg:=⟨_,fun _=>rfl⟩;have br:xs 0=[]:=by rw [cY];rfl
   have e7:∀ j,(xs j).length≤cur.length:=fun j=>by
    rw [cY,f6,f6];exact ai6 _ _
   refine ad.h2 I 23 1 0 fun I=>?_
   refine ad.b0 [0,4,5] C I (σ:=Nat×bM) (fun q=>[(9,.int .i64 (q.1:Int)),(8,.aC 1 (xs q.1) q.2)]) (fun q=>[(q.2,.row 23 1 (xs q.1).length),(.own bR,.row 3 1 (acc.length+1))]) (fun q=>q.1≤cur.length) (fun q=>cur.length-q.1) (0,.nil) (g7 _) ⟨⟨_,rfl,aM⟩,⟨_,rfl,by rw [br];exact aS.nil gW⟩,trivial⟩ FL ?_;rintro ⟨i,uL⟩ aQ I;simp only at aQ I ⊢;refine b2 ?_;refine ad.cond C (fun j6=>?_) (fun kL=>?_)
   ·have j6:i<cur.length:=by simpa using j6
    obtain ⟨l,ay,c'⟩:=bV (f:=bg) j6;have au:=cY (i+1);rw [iH ay,ac2,ac2,← cY] at au;have au:xs (i+1)=xs i++[.aC 1 ((fw gC l).map bb) .bc]:=au;have dd:(xs (i+1)).length=(xs i).length+1:=by rw [au];simp
    have lp:=e7 i;have hw:=F8 l gC (by have:=(hm.each l (d5 ay)).1;omega);unfold bg at c' hw;refine dC ?_;refine aa.dQ C C C C C hw ?_;refine dS ?_;refine aa.gf ai I C C C C C C C et C C C C C C C C a1 hc pN ag (fun fi I=>?_);refine fu ?_;exact bn.mk (i+1,.own fi) I j6 j1 (by show aH _ [(_,.row _ _ (xs (i+1)).length),_] _;rw [dd];exact aH.du _) FO
   ·have kL:i=cur.length:=by
     have:cur.length≤i:=by simpa using kL
     omega
    subst kL;have he:xs cur.length=(cur.map (fw gC)).map bg:=by rw [cY,ac6]
    rw [he] at I ⊢;refine bB ?_;exact bn.mk (k,cur.map (fw gC),acc++[gC],.own bR) I ⟨ed,by show total (cur.map (fw gC))<k;omega,hm.fw gC,by show (acc++[gC]).length+total (cur.map (fw gC))≤total all;rw [f8,ae6];omega⟩ ⟨⟨_,rfl,aS.bc⟩,⟨_,rfl,aS.of_eq (by simp [bb])⟩,trivial⟩ (by show aH _ [(_,.row _ _ (acc++[gC]).length)] _;rw [f8,ae6];exact (aH.du _).there) (by show k<k+1;omega)
 ·refine aa.c2 14 C (by simpa using ar) ?_
  have aV:j=cur.length:=by omega
  rcases ak with ⟨rfl,ak,hK⟩|⟨ye,wJ⟩
  ·rw [ef ag] at ak
   rw [aV,ac6] at hK;cases k with
   | zero=>omega
   | succ k=>
    rw [merge,ak] at ed;have ed:(acc,cur.all an3)=merged all:=ed;rw [← ed,← hK];refine bB ?_;exact Fin.cp I C (aS.cu (.cons aS.bc (.one aM)))
  ·have kK:¬ gC<0:=by omega
   refine bB ?_;refine ad.cond C (fun h=>absurd (of_decide_eq_true h) kK) (fun _=>?_);cases k with
   | zero=>omega
   | succ k=>
   have KY:=C3 (uI wJ);rw [merge,wJ] at ed;simp only at ed;refine dC ?_;refine aa.gf ai I C C C C C C C et C C C C C C C C a1 hc j2 ag (fun bR I=>?_);refine bB ?_;obtain ⟨xs,cY⟩:∃ xs:Nat→List af,∀ j,xs j=((cur.take j).map (fw gC)).map bg:=⟨_,fun _=>rfl⟩;have br:xs 0=[]:=by rw [cY];rfl
   have e7:∀ j,(xs j).length≤cur.length:=fun j=>by
    rw [cY,f6,f6];exact ai6 _ _
   refine ad.h2 I 23 1 0 fun I=>?_
   refine ad.b0 [0,4,5] C I (σ:=Nat×bM) (fun q=>[(9,.int .i64 (q.1:Int)),(8,.aC 1 (xs q.1) q.2)]) (fun q=>[(q.2,.row 23 1 (xs q.1).length),(.own bR,.row 3 1 (acc.length+1))]) (fun q=>q.1≤cur.length) (fun q=>cur.length-q.1) (0,.nil) (g7 _) ⟨⟨_,rfl,aM⟩,⟨_,rfl,by rw [br];exact aS.nil gW⟩,trivial⟩ FL ?_;rintro ⟨i,uL⟩ aQ I;simp only at aQ I ⊢;refine b2 ?_;refine ad.cond C (fun j6=>?_) (fun kL=>?_)
   ·have j6:i<cur.length:=by simpa using j6
    obtain ⟨l,ay,c'⟩:=bV (f:=bg) j6;have au:=cY (i+1);rw [iH ay,ac2,ac2,← cY] at au;have au:xs (i+1)=xs i++[.aC 1 ((fw gC l).map bb) .bc]:=au;have dd:(xs (i+1)).length=(xs i).length+1:=by rw [au];simp
    have lp:=e7 i;have hw:=F8 l gC (by have:=(hm.each l (d5 ay)).1;omega);unfold bg at c' hw;refine dC ?_;refine aa.dQ C C C C C hw ?_;refine dS ?_;refine aa.gf ai I C C C C C C C et C C C C C C C C a1 hc pN ag (fun fi I=>?_);refine fu ?_;exact bn.mk (i+1,.own fi) I j6 j1 (by show aH _ [(_,.row _ _ (xs (i+1)).length),_] _;rw [dd];exact aH.du _) FO
   ·have kL:i=cur.length:=by
     have:cur.length≤i:=by simpa using kL
     omega
    subst kL;have he:xs cur.length=(cur.map (fw gC)).map bg:=by rw [cY,ac6]
    rw [he] at I ⊢;refine bB ?_;exact bn.mk (k,cur.map (fw gC),acc++[gC],.own bR) I ⟨ed,by show total (cur.map (fw gC))<k;omega,hm.fw gC,by show (acc++[gC]).length+total (cur.map (fw gC))≤total all;rw [f8,ae6];omega⟩ ⟨⟨_,rfl,aS.bc⟩,⟨_,rfl,aS.of_eq (by simp [bb])⟩,trivial⟩ (by show aH _ [(_,.row _ _ (acc++[gC]).length)] _;rw [f8,ae6];exact (aH.du _).there) (by show k<k+1;omega)
structure rZ (g:List (List Int)):Prop where
 len:g.length≤16
 par:∀ (i:Nat) (l:List Int),g[i]? = some l→l.length≤3∧∀ c∈l,3≤c∧c<3+(i:Int)
theorem KZ {f i:Int}:∀ {l seen:List Int},mv f i seen l=true→∀ c∈l,f≤c∧c<f+i
  | [],_,_,c,aA=>by cases aA
  | d::r,seen,h,c,aA=>by
    rw [mv] at h;simp only [f7,g8] at h;rcases ad1.1 aA with rfl|aA
    · exact ⟨h.1,h.2.1⟩
    · exact KZ h.2.2.2 c aA
theorem K0:∀ {g:List (List Int)} {k:Nat},n7 k g=true→∀ i l,g[i]? = some l→l.length≤3∧∀ c∈l,3≤c∧c<3+((k+i:Nat):Int)
  | [],_,_,i,l,aB=>by simp at aB
  | x::r,k,h,i,l,aB=>by
    rw [n7] at h;simp only [f7,g8] at h;cases i with
    | zero=>
      cases aB;exact ⟨h.1,fun c aA=>by have:=KZ h.2.1 c aA;omega⟩
    | succ i=>
      have:=K0 h.2.2 i l aB;rw [show k+1+i=k+(i+1) by omega] at this;exact this
theorem Am {g:List (List Int)} (h:mw g=true):rZ g:=by
 unfold mw at h;simp only [f7,g8] at h;refine ⟨h.1,fun i l aB=>?_⟩;have:=K0 h.2 i l aB;simpa using this
theorem rZ.parents {g:List (List Int)} (h:rZ g) (c:Nat):(parents g c).length≤3∧∀ p∈parents g c,3≤p∧p<(c:Int):=by
 unfold Go.dv.parents;by_cases aA:c<3
 ·rw [f9 aA];exact ⟨by simp,fun p aE=>by cases aE⟩
 ·rw [d9 aA,d6]
  cases aB:g[c-3]? with
  | none=>exact ⟨by simp,fun p aE=>by simp at aE⟩
  | some l=>
   obtain ⟨U,ae⟩:=h.par _ _ aB;exact ⟨U,fun p aE=>by have:=ae p aE;omega⟩
structure abC (n:Nat) (l:List Int):Prop where
 len:l.length≤n
 pos:∀ c∈l,0≤c
theorem F':∀ (k:Nat) (all:List (List Int)) (acc:List Int),(merge k all acc).1.length≤acc.length+total all
  | 0,_,acc=>by rw [merge];exact ax7 _ _
  | k+1,all,acc=>by
    rw [merge];cases aE:pick all all with
    | none=>exact ax7 _ _
    | some d=>
      simp only;have U:=F' k (all.map (fw d)) (acc++[d]);have ae:=C3 (uI aE);rw [f8,ae6] at U;omega
theorem Ts (g:List (List Int)) (aw:g.length<bu) (c:Nat) (aA:c<3+g.length):aR d0 271 [cV g,.int .i64 (c:Int)] (bg (parents g c)):=by
 have aq:=bC;refine aR.bj ai Tryz.func271 C C fun s I=>?_
 unfold cV parents;refine b2 ?_;refine ad.cond C (fun h=>?_) (fun h=>?_)
 ·have h:c<3:=by have:=of_decide_eq_true h;omega
  rw [f9 h];refine gH ?_;exact Fin.cp I C (aS.nil gW)
 ·have h:¬ c<3:=by have:=of_decide_eq_false h;omega
  obtain ⟨l,ay,c'⟩:=bV (f:=bg) (l:=g) (j:=c-3) ag;rw [d9 h,d6,ay];unfold bg at c';refine dC ?_;refine aa.idx ai (c-3) C C C C C C C C C C FN c' C ?_;refine eD ?_;exact bm I
theorem K1 {o:List (List Int)}:∀ {l:List Int} {r:List (List Int)},iS o l=some r→r.length=l.length
  | [],r,h=>by cases h;rfl
  | p::q,r,h=>by
    rw [iS] at h;split at h
    · cases h
    · cases bq:iS o q with
      | none=>rw [bq] at h;cases h
      | some t=>
        rw [bq] at h;cases h;rw [i8,K1 bq,i8]
def pre (x:Option (List (List Int))) (a:List (List Int)):Option (List (List Int)):=x.map fun l=>a++l
theorem K2 (x:Option (List (List Int))):pre x []=x:=by cases x<;>rfl
theorem K3 (o:List (List Int)) (a:List (List Int)) (p:Int) (q:List Int):pre (iS o (p::q)) a=if (o.getD p.toNat []).isEmpty then none else pre (iS o q) (a++[fw 0 (o.getD p.toNat [])]):=by
 unfold pre;rw [iS];split
 ·rfl
 ·cases iS o q<;>simp
def uM:Option (List (List Int))→af
 | some l => .cu [cV l,.bool true]
 | none => .cu [cV [],.bool false]
theorem Tt (g:List (List Int)) (aw:rZ g) (o:List (List Int)) (c:Nat) (aA:c<3+g.length) (ah:c≤o.length) (gh:o.length<100) (An:∀ l∈o,l.length<1000) :
  aR d0 251 [cV g,cV o,.int .i64 (c:Int)] (uM (lists g o c)):=by
 have aq:=bC;have jO:=aw.len;have aE:=Ts g ag c aA;obtain ⟨r0,o3⟩:=aw.parents c;unfold lists;generalize parents g c=l at aE r0 o3 ⊢;refine aR.bj ai Tryz.func251 C C fun s I=>?_
 unfold cV at aE ⊢;unfold bg at aE;refine dL ?_;refine aa.dQ C C C C C aE ?_;refine bB ?_;refine ad.h2 I 23 1 0 fun I=>?_
 refine ad.b0 [1,9] C I (σ:=Nat×List (List Int)×bM) (fun q=>[(10,.int .i64 (q.1:Int)),(8,.aC 1 (q.2.1.map bg) q.2.2)]) (fun q=>[(q.2.2,.row 23 1 q.2.1.length)]) (fun q=>q.1≤l.length∧q.2.1.length=q.1∧iS o l=pre (iS o (l.drop q.1)) q.2.1) (fun q=>l.length-q.1) (0,[],.nil) ⟨g7 _,rfl,(K2 _).symm⟩ ⟨⟨_,rfl,aM⟩,⟨_,rfl,aS.nil gW⟩,trivial⟩ (aH.du _) ?_;rintro ⟨j,acc,own⟩ ⟨aK,k3,ak⟩ I;simp only at aK k3 ak I ⊢;refine b2 ?_;refine ad.cond C (fun ar=>?_) (fun aV=>?_);rotate_left
 ·have aV:l.length≤j:=by simpa using aV
  rw [ef aV] at ak;have ak:iS o l=some (acc++[]):=ak;rw [ak,d7];have Ao:uM (Option.map (fun x=>x++[l]) (some acc)) = .cu [.aC 1 (acc.map bg++[.aC 1 (l.map bb) .bc]) .bc,.bool true]:=by
   show af.cu [.aC 1 ((acc++[l]).map bg) .bc,.bool true]=_;rw [ac2];rfl
  rw [Ao];refine bB ?_;refine aa.gf ai I C C C C C C C et C C C C C C C C a1 hc pN ag (fun bR I=>?_);refine eD ?_;exact Fin.cp I C (aS.cu (.cons aS.bc (.one aM)))
 have ar:j<l.length:=by simpa using ar
 obtain ⟨p,ay,c'⟩:=bV (f:=bb) ar;rw [drop_cons ay,K3] at ak;obtain ⟨K4,abD⟩:=o3 p (d5 ay);have hQ:p.toNat<o.length:=by omega
 have Ga:o[p.toNat]? = some (o.getD p.toNat []):=by rw [d6,g6 hQ];rfl
 have nD:=An _ (d5 Ga);have Dc:(o.map bg)[p.toNat]? = some (bg (o.getD p.toNat [])):=by rw [ad2,Ga];rfl
 generalize o.getD p.toNat []=ol at ak Ga nD Dc;have Ap:p=(p.toNat:Int):=by omega
 have hw:=F8 ol 0 ag;unfold bb at c';unfold bg at Dc hw;refine dC ?_;refine aa.idx ai p.toNat C C C C C C C C C C Ap Dc C ?_;refine fI ?_;cases ol with
 | nil=>
  have ak:iS o l=none:=ak;rw [ak];refine ad.e8 C ?_;refine jg ?_;exact Fin.cp I C (aS.cu (.cons (aS.nil gW) (.one aM)))
 | cons x r=>
  refine ad.cond C (fun h=>absurd h cE) (fun _=>?_);refine dC ?_;refine aa.idx ai p.toNat C C C C C C C C C C Ap Dc C ?_;refine dS ?_;refine aa.dQ C C C C C hw ?_;refine dS ?_;refine aa.gf ai I C C C C C C C et C C C C C C C C a1 hc pN ag (fun bR I=>?_);refine fu ?_;exact bn.mk (j+1,acc++[fw 0 (x::r)],.own bR) I ⟨ar,by rw [f8,k3];rfl,ak⟩ x8 (by show aH _ [(_,.row _ _ (acc++[fw 0 (x::r)]).length)] _;rw [f8,ae6];exact aH.du _) (by show l.length-(j+1)<l.length-j;omega)
theorem ad.Aq {P:Program} {N:Nat} {Q:b8→Env→ao→Prop} {env:Env} {s:ao} {c:Code} {L:a'} (I:Ok s L) (e:TypeId) (sz n:Nat) (h:Ok s ((.clip,.row e sz n)::L)→ad P N c Q env (aT s ((.clip,.row e sz n)::L))):ad P N c Q env (aT s L):=h ⟨trivial,I⟩
theorem aa.Aq {P:Program} {N:Nat} {ops:Array Oper} {Q:b8→Env→ao→Prop} {env:Env} {s:ao} {l:List Oper} {L:a'} (I:Ok s L) (e:TypeId) (sz n:Nat) (h:Ok s ((.clip,.row e sz n)::L)→aa P N ops l Q env (aT s ((.clip,.row e sz n)::L))):aa P N ops l Q env (aT s L):=h ⟨trivial,I⟩
theorem Gb:∀ (n:Nat) (l:List Int),l.Nodup→(∀ c∈l,0≤c∧c<(n:Int))→l.length≤n
  | 0,[],_,_=>i0 _
  | 0,c::r,_,h=>by have:=h c i7;omega
  | n+1,l,ax,h=>by
    by_cases hm:(n:Int)∈l
    · have U:=Gb n (l.erase (n:Int)) (ax.erase _) (fun c aA=>by
        obtain ⟨ae,an⟩:=ax.mem_erase_iff.1 aA
        have:=h c an
        omega)
      rw [List.length_erase_of_mem hm] at U;omega
    · have:=Gb n l ax (fun c aA=>by
        have U:=h c aA
        have:c≠(n:Int):=fun e=>hm (e ▸ aA)
        omega)
      omega
theorem K5:∀ (k:Nat) (all:List (List Int)) (acc:List Int),acc.Nodup→(∀ c∈acc,∀ l∈all,c∉l)→(merge k all acc).1.Nodup
  | 0,_,_,h,_=>h
  | k+1,all,acc,h,ax=>by
    rw [merge];cases aE:pick all all with
    | none=>exact h
    | some d=>
      simp only;obtain ⟨t,aN⟩:=uI aE;refine K5 k _ _ ?_ ?_
      · rw [List.nodup_append]
        exact ⟨h,by simp,fun a a8 b aq=>by
          rw [z2] at aq;subst aq
          intro e;subst e
          exact ax a a8 _ aN i7⟩
      · intro c aA l aB
        obtain ⟨lv,U,rfl⟩:=ad7.1 aB;unfold fw;rw [af6];rintro ⟨ae,an⟩;rcases ac9.1 aA with aA|aA
        · exact ax c aA lv U ae
        · rw [z2] at aA;subst aA;simp at an
theorem K6 {q:Int→Prop}:∀ (k:Nat) (all:List (List Int)) (acc:List Int),(∀ l∈all,∀ c∈l,q c)→(∀ c∈acc,q c)→∀ c∈(merge k all acc).1,q c
  | 0,_,acc,_,h=>h
  | k+1,all,acc,a8,h=>by
    rw [merge];cases aE:pick all all with
    | none=>exact h
    | some d=>
      simp only;refine K6 k _ _ (fun l aB c aA=>?_) (fun c aA=>?_)
      · obtain ⟨lv,U,rfl⟩:=ad7.1 aB
        exact a8 lv U c (af6.1 aA).1
      · rcases ac9.1 aA with aA|aA
        · exact h c aA
        · rw [z2] at aA;subst aA
          obtain ⟨t,aN⟩:=uI aE;exact a8 _ aN c i7
theorem Gc {q:Int→Prop} {o:List (List Int)} (ah:∀ l∈o,∀ c∈l,q c):∀ {l:List Int} {r:List (List Int)},iS o l=some r→∀ x∈r,∀ c∈x,q c
  | [],r,h,x,ab=>by cases h;cases ab
  | p::t,r,h,x,ab=>by
    rw [iS] at h;split at h
    · cases h
    · cases bq:iS o t with
      | none=>rw [bq] at h;cases h
      | some s=>
        rw [bq] at h;cases h;rcases ad1.1 ab with rfl|ab
        · intro c aA
          have aA:=(af6.1 aA).1;rw [d6] at aA;cases aB:o[p.toNat]? with
          | none=>rw [aB] at aA;cases aA
          | some l=>rw [aB] at aA;exact ah l (d5 aB) c aA
        · exact Gc ah bq x ab
structure Gd (n:Nat) (o:List (List Int)):Prop where
 len:∀ l∈o,l.length≤n+2
 Ge:∀ l∈o,∀ c∈l,0≤c∧c<(n:Int)
theorem Tu {g:List (List Int)} (aw:rZ g) {o:List (List Int)} {c:Nat} (aA:c<3+g.length) (ah:Gd (3+g.length) o):(order g o c).length≤3+g.length+2∧∀ x∈order g o c,0≤x∧x<((3+g.length:Nat):Int):=by
 unfold order;cases aB:lists g o c with
 | none=>exact ⟨by simp,fun x ab=>by cases ab⟩
 | some all=>
  simp only;split
  ·have aE:=aw.parents c
   have gF:∀ l∈all,∀ c∈l,0≤c∧c<((3+g.length:Nat):Int):=by
    unfold lists at aB;cases bq:iS o (parents g c) with
    | none=>rw [bq] at aB;cases aB
    | some r=>
     rw [bq] at aB;cases aB;intro l aB x ab;rcases ac9.1 aB with aB|aB
     ·exact Gc (q:=fun x=>0≤x∧x<((3+g.length:Nat):Int)) ah.Ge bq l aB x ab
     ·rw [z2] at aB;subst aB
      have:=aE.2 x ab;omega
   have U:∀ x∈(merged all).1,0≤x∧x<((3+g.length:Nat):Int):=K6 _ all [] gF (fun c aA=>by cases aA);have ae:(merged all).1.Nodup:=K5 _ all [] List.nodup_nil (fun c aA=>by cases aA);have an:=Gb _ _ ae U;refine ⟨by rw [f8,i8,ae6];omega,fun x ab=>?_⟩;rcases ac9.1 ab with ab|ab
   ·rcases ad1.1 ab with rfl|ab
    ·omega
    ·exact U x ab
   ·rw [z2] at ab;omega
  ·exact ⟨by simp,fun x ab=>by cases ab⟩
theorem Ar {g:List (List Int)} (aw:rZ g):∀ k,k<3+g.length→Gd (3+g.length) (fE g k)
  | 0,_=>⟨fun l aB=>by rw [fE,z2] at aB;subst aB;simp,fun l aB c aA=>by rw [fE,z2] at aB;subst aB;rw [z2] at aA;omega⟩
  | k+1,h=>by
    have a6:=Ar aw k ag;have U:=Tu aw h a6;rw [fE];refine ⟨fun l aB=>?_,fun l aB=>?_⟩
    · rcases ac9.1 aB with aB|aB
      · exact a6.len l aB
      · rw [z2] at aB;subst aB;exact U.1
    · rcases ac9.1 aB with aB|aB
      · exact a6.Ge l aB
      · rw [z2] at aB;subst aB;exact U.2
theorem aS.As {sz:Nat} {xs ys:List af} {own:bM} (h:cR xs ys):aS (.aC sz xs own) (.aC sz ys own):=fun w p v av=>by
 cases av with
 | hY _ _ ah=>cases h;exact .hY _ _ ah
 | iA a _ _ ah=>cases h;exact .iA a _ _ ah
 | aC g off n cap _ vs _ _ az aB aA aF au hm aD ct ah=>exact .aC g off n cap _ vs _ _ az (by rw [aB];exact h.length) aA (h.rel aF) au hm aD ct ah
theorem Gf {g:List (List Int)} (aw:rZ g) {o:List (List Int)} {c:Nat} (ah:Gd (3+g.length) o) {all:List (List Int)} (h:lists g o c=some all):qN 4 21 all:=by
 have aE:=aw.parents c;have jO:=aw.len;unfold lists at h;cases bq:iS o (parents g c) with
 | none=>rw [bq] at h;cases h
 | some r=>
  rw [bq] at h;cases h;have aB:=K1 bq;refine ⟨by rw [f8,ae6];omega,fun l aB=>?_⟩;rcases ac9.1 aB with aB|aB
  ·refine ⟨?_,fun x ab=>(Gc (q:=fun x=>0≤x) (fun l aB c aA=>(ah.Ge l aB c aA).1) bq l aB x ab)⟩
   have key:∀ {l:List Int} {r:List (List Int)},iS o l=some r→∀ x∈r,x.length≤21:=by
    intro l
    induction l with
    | nil=>intro r h x ab;cases h;cases ab
    | cons p t a6=>
     intro r h x ab;rw [iS] at h;split at h
     ·cases h
     ·cases bq:iS o t with
      | none=>rw [bq] at h;cases h
      | some s=>
       rw [bq] at h;cases h;rcases ad1.1 ab with rfl|ab
       ·refine ai' (x' _ _) ?_
        rw [d6];cases aB:o[p.toNat]? with
        | none=>simp
        | some l=>
         have:=ah.len l (d5 aB);show l.length≤21;omega
       ·exact a6 bq x ab
   exact key bq l aB
  ·rw [z2] at aB;subst aB
   exact ⟨by omega,fun x ab=>by have:=aE.2 x ab;omega⟩
theorem Tv (g:List (List Int)) (aw:rZ g):aR d0 219 [cV g] (cV (fE g (2+g.length))):=by
 have aq:=bC;have jO:=aw.len;obtain ⟨xs,cY⟩:∃ xs:Nat→List af,∀ j,xs j=(fE g j).map bg:=⟨_,fun _=>rfl⟩;have br:xs 0=[.aC 1 [.int .i64 0] .bc]:=by rw [cY];rfl
 have e7:∀ j,(xs j).length=j+1:=fun j=>by rw [cY,f6,tp]
 refine aR.bj ai Tryz.func219 C C fun s I=>?_
 unfold cV;refine gg ?_;refine ad.Aq I 23 1 1 fun I=>?_
 refine ad.b0 [0] C I (σ:=Nat×bM) (fun q=>[(4,.int .i64 ((q.1+1:Nat):Int)),(3,.aC 1 (xs q.1) q.2)]) (fun q=>[(q.2,.row 23 1 (xs q.1).length)]) (fun q=>q.1≤2+g.length) (fun q=>2+g.length-q.1) (0,.clip) (g7 _) ⟨⟨_,rfl,aM⟩,⟨_,rfl,by rw [br];exact aS.As (.one aS.bc)⟩,trivial⟩ (by rw [e7];exact aH.du _) ?_;rintro ⟨j,own⟩ aK I;simp only at aK I ⊢;have w:H1 .i64 (3+((g.map bg).length:Int))=3+(g.length:Int):=by rw [f6,eo ag ag]
 refine b2 ?_;refine ad.cond C (fun ar=>?_) (fun aV=>?_);rotate_left
 ·have aV:j=2+g.length:=by
   rw [w] at aV;have:=of_decide_eq_false aV;omega
  subst aV;rw [← cY];refine dB ?_;exact Fin.cp I C aS.bc
 have ar:j<2+g.length:=by
  rw [w] at ar;have:=of_decide_eq_true ar;omega
 have mM:=Ar aw j ag;have lA:=Tt g aw (fE g j) (j+1) ag (by rw [tp];exact i0 _) (by rw [tp];omega) (fun l aB=>by have:=mM.len l aB;omega);have au:=cY (j+1);rw [fE,ac2,← cY] at au;have au:xs (j+1)=xs j++[bg (order g (fE g j) (j+1))]:=au;have dd:(xs (j+1)).length=(xs j).length+1:=by rw [au];simp
 have lp:=e7 j;unfold order at au;have Tw:cR [.aC 1 (g.map bg) .bc,.aC 1 (xs j) own,.int .i64 ((j+1:Nat):Int)] [cV g,cV (fE g j),.int .i64 ((j+1:Nat):Int)] := .cons aM (.cons (by unfold cV;rw [← cY];exact aS.bc) (.one aM));have lA:=aR.args Tw lA;cases aB:lists g (fE g j) (j+1) with
 | none=>
  rw [aB] at lA au;unfold uM cV at lA;simp only at au;refine bB ?_;refine aa.dQ C C C C C lA ?_;refine bB ?_;refine aa.gf ai I C C C C C C C et C C C C C C C C a1 hc pN ag (fun bR I=>?_);refine fu ?_;exact bn.mk (j+1,.own bR) I ar ⟨⟨_,rfl,aS.of_eq (by rw [jv ag])⟩,⟨_,rfl,by rw [au];exact aS.As (cR.last (show aS (.aC 0 [] .nil) (bg []) from aS.nil gW) _)⟩,⟨_,rfl,aM⟩,trivial⟩ FM FP
 | some all=>
  rw [aB] at lA au;have hm:=Tq 4 21 ag all (Gf aw mM aB);unfold uM cV at lA;unfold cV bg at hm;simp only at au;refine bB ?_;refine aa.dQ C C C C C lA ?_;refine bB ?_;refine aa.dQ C C C C C hm ?_;have hy:=F' (total all+1) all [];have wI:=Db (Gf aw mM aB);cases wK:(merged all).2 with
  | false=>
   rw [wK] at au;simp only [Bool.false_eq_true,if_false] at au;refine bB ?_;refine aa.gf ai I C C C C C C C et C C C C C C C C a1 hc pN ag (fun bR I=>?_);refine fu ?_;exact bn.mk (j+1,.own bR) I ar ⟨⟨_,rfl,aS.of_eq (by rw [jv ag])⟩,⟨_,rfl,by rw [au];exact aS.As (cR.last (show aS (.aC 0 [] .nil) (bg []) from aS.nil gW) _)⟩,⟨_,rfl,aM⟩,trivial⟩ FM FP
  | true=>
   rw [wK] at au;simp only [if_true] at au;have Gg:(merged all).1.length≤84:=by
    have:(merged all).1.length≤0+total all:=hy;omega
   generalize (merged all).1=m at hm au Gg;have he:bg (((j+1:Nat):Int)::m++[0]) = .aC 1 ([.int .i64 ((j+1:Nat):Int)]++m.map bb++[.int .i64 0]) .bc:=by unfold bg;simp [bb]
   rw [he] at au;refine bB ?_;refine aa.Aq I 3 1 1 fun I=>?_
   refine aa.qH ai I rfl rfl rfl rfl rfl rfl rfl et rfl rfl rfl rfl (.inr rfl) rfl (fun y ay=>by obtain ⟨z,-,rfl⟩:=ad7.1 ay;rfl) C .here C (n':=m.length+1) cE cE cE (fun tu I=>?_);refine dS ?_;refine aa.gf ai I C C C C C C C et C C C C C C C C a1 hc j2 ag (fun fi I=>?_);refine ht ?_;refine aa.gf ai I C C C C C C C et C C C C C C C C a1 hc pN ag (fun bR I=>?_);refine fu ?_;exact bn.mk (j+1,.own bR) I ar ⟨⟨_,rfl,aS.of_eq (by rw [jv ag])⟩,⟨_,rfl,by rw [au];exact aS.As (cR.last aS.bc _)⟩,⟨_,rfl,aM⟩,trivial⟩ FM FP
theorem Tx (g:List (List Int)) (aw:rZ g) (c:Nat) (aA:c<3+g.length):aR d0 181 [cV g,.int .i64 (c:Int)] (.cu [bg ((fE g (2+g.length)).getD c []),.bool (!((fE g (2+g.length)).getD c []).isEmpty)]):=by
 have ah:=Tv g aw;have aB:=tp g (2+g.length);have ct:c<(fE g (2+g.length)).length:=by omega
 obtain ⟨l,ay,c'⟩:=bV (f:=bg) ct;rw [d6,ay,ae1];unfold cV at ah ⊢;unfold bg at c';refine aR.bj ai Tryz.func181 C C fun s I=>?_
 refine dL ?_;refine aa.dQ C C C C C ah ?_;refine bB ?_;refine Fin.cp I C (aS.cu (.cons aM (.one (aS.of_eq ?_))));congr 1;cases l<;>simp
end Go.Proofs.YtnafpeohfbglmaaGreat
namespace Go.cW
theorem aH.all:∀ L:a',aH L L []
 | [] => .nil
 | (_,_)::L => .cons .here (aH.all L)
end Go.cW
namespace Go.dv.aj
open Go.cW
mutual
def bJ:aj→af
 | .mk o a p c n ks => .agg [.int .i64 o,.int .i64 a,.aC 1 (p.map fun i => .int .i64 i) .bc,.int .i64 c,.int .i64 n,.aC 6 (Dd ks) .bc]
def Dd:List aj→List af
 | []=>[]
 | k::r=>k.bJ::Dd r
end
theorem K7:∀ l:List aj,Dd l=l.map bJ
 | []=>rfl
 | k::r=>by rw [Dd,ac4,K7 r]
def cells (x:aj):List af:=[.int .i64 x.op,.int .i64 x.arg,.aC 1 (x.path.map fun i => .int .i64 i) .bc,.int .i64 x.cls,.int .i64 x.n,.aC 6 (x.kids.map bJ) .bc]
theorem bW (x:aj):x.bJ = .agg x.cells:=by cases x;rw [bJ,K7];rfl
end Go.dv.aj
namespace Go.Proofs.YtnafpeohfbglmaaGreat
open Go.cW Go.dv
def eO (w:bx):List af:=[cV w.ps,bg w.owner]
def eF (w:bx):af := .agg (eO w)
def wL (x:iT):af := .agg [.int .i64 x.slot,.int .i64 x.n]
def m4 (c:fK):List af:=[bg c.parents,bg c.bl,.aC 2 (c.inits.map wL) .bc]
def ji (c:fK):af := .agg (m4 c)
def nE (m:hJ):List af:=[.int .i64 m.kind,.int .i64 m.gen,.int .i64 m.fact.op,.int .i64 m.fact.arg,.aC 1 (m.fact.path.map fun i => .int .i64 i) .bc,.int .i64 m.fact.cls,.int .i64 m.fact.n,.aC 6 (m.fact.kids.map aj.bJ) .bc,.int .i64 m.node]
def lB (m:hJ):af := .agg (nE m)
def k4 (x:iU):List af:=[.int .i64 x.op,.int .i64 x.n,bg x.kids]
def jj (x:iU):af := .agg (k4 x)
def cL (p:bP):List af:=[.aC 3 (p.cl.map ji) .bc,.int .i64 p.bl,bg p.dw,.aC 9 (p.methods.map lB) .bc,.aC 3 (p.nodes.map jj) .bc,.int .i64 p.main]
def cJ (p:bP):af := .agg (cL p)
def gY (x:b7):List af:=[.int .i64 x.atom,.int .i64 x.no,.int .i64 x.yes,bg x.ms]
def eP (x:b7):af := .agg (gY x)
theorem eE.K8 {P:Program} {fv:af} {args:List af} {v:af} (h:eE P fv args v):dt P fv args [] (fun o K=>o = .ret v∧K=[]):=fun s _=>hT.mono (h s) (fun o al ⟨U,ae⟩=>⟨[],ae,trivial,U,rfl⟩)
theorem bE.Gh {P:Program} {f:FuncId} {args:List af} {v:af} (h:bE P f args [] (fun o K=>o = .ret v∧K=[])):aR P f args v:=fun s=>hi.mono (h s trivial) (fun o al ⟨K,U,_,ae,an⟩=>⟨ae,by subst an;exact U⟩)
theorem K9 {α:Type} (q:α→Bool):∀ (xs:List α) (j:Nat) (x:α),xs[j]? = some x→q x=true→(∀ (i:Nat) y,i<j→xs[i]? = some y→q y=false)→xs.findIdx? q=some j:=by
 intro xs j x ab bq aQ;obtain ⟨U,ae⟩:=ac3.1 ab;rw [ae8];exact ⟨U,by rw [ae];exact bq,fun i eN=>by rw [aQ i xs[i] eN (g6 _)];simp⟩
theorem K' {α:Type} (q:α→Bool) (xs:List α) (aQ:∀ (i:Nat) y,xs[i]? = some y→q y=false):xs.findIdx? q=none:=by
 rw [af8];intro x ab;obtain ⟨i,h⟩:=ag3 ab;exact aQ i x h
theorem Ty {α:Type} {f:FuncId} {fv bt:af} {bJ:α→af} {xs:List α} {q:α→Bool}
  (au:∀ (T:Nat→a') (cq:Nat→Bool),(∀ j x,xs[j]? = some x→(∀ i,i<j→cq i=false)→dt d0 fv [bJ x] (T j) (fun o K=>o = .ret (.bool (cq j))∧K=T (j+1)))→bE d0 f [bt,fv] (T 0)
   (fun o K=>(o = .ret (.int .i64 (-1))∧K=T xs.length∧∀ i,i<xs.length→cq i=false)∨∃ j,j<xs.length∧cq j=true∧(∀ i,i<j→cq i=false)∧o = .ret (.int .i64 (j:Int))∧K=T (j+1)))
  (h:∀ x∈xs,eE d0 fv [bJ x] (.bool (q x))):aR d0 f [bt,fv] (.int .i64 (match xs.findIdx? q with|some i=>(i:Int)|none => -1)):=by
 have:=au (fun _=>[]) (fun j=>match xs[j]? with|some x=>q x|none=>false) (fun j x ab _=>by rw [ab];exact eE.K8 (h x (d5 ab)));refine bE.Gh (bE.mono this ?_);rintro o K (⟨rfl,rfl,U⟩|⟨j,U,ae,an,rfl,rfl⟩)
 ·rw [K' q xs (fun i y ay=>by have:=U i (qM ay);rw [ay] at this;exact this)]
  exact ⟨rfl,rfl⟩
 ·have ab:=g6 U
  rw [ab] at ae;rw [K9 q xs j _ ab ae (fun i y eN ay=>by have:=an i eN;rw [ay] at this;exact this)];exact ⟨rfl,rfl⟩
theorem Au {α:Type} {f:FuncId} {fv bt:af} {bJ:α→af} {xs:List α} {q:α→Bool}
  (au:∀ (T:Nat→a') (cq:Nat→Bool),(∀ j x,xs[j]? = some x→(∀ i,i<j→cq i=false)→dt d0 fv [bJ x] (T j) (fun o K=>o = .ret (.bool (cq j))∧K=T (j+1)))→bE d0 f [bt,fv] (T 0)
   (fun o K=>(o = .ret (.bool false)∧K=T xs.length∧∀ i,i<xs.length→cq i=false)∨∃ j,j<xs.length∧cq j=true∧(∀ i,i<j→cq i=false)∧o = .ret (.bool true)∧K=T (j+1)))
  (h:∀ x∈xs,eE d0 fv [bJ x] (.bool (q x))):aR d0 f [bt,fv] (.bool (xs.any q)):=by
 have:=au (fun _=>[]) (fun j=>match xs[j]? with|some x=>q x|none=>false) (fun j x ab _=>by rw [ab];exact eE.K8 (h x (d5 ab)));refine bE.Gh (bE.mono this ?_);rintro o K (⟨rfl,rfl,U⟩|⟨j,U,ae,an,rfl,rfl⟩)
 ·have:xs.any q=false:=by
   rw [List.any_eq_false];intro x ab;obtain ⟨i,aQ⟩:=ag3 ab;have:=U i (qM aQ);rw [aQ] at this;simpa using this
  rw [this];exact ⟨rfl,rfl⟩
 ·have ab:=g6 U
  rw [ab] at ae;have:xs.any q=true:=ae2.2 ⟨_,aj6 U,ae⟩;rw [this];exact ⟨rfl,rfl⟩
def eJ (v:Int×Int):af := .agg [.int .i64 v.1,.int .i64 v.2]
def ho (x:dD):af := .agg [.int .i64 x.cls,.aC 2 (x.bl.map eJ) .bc]
theorem La (fv:af) (xs:List aj) (T:Nat→a') (cq:Nat→Bool) (aB:xs.length<bu) (h:∀ j x,xs[j]? = some x→(∀ i,i<j→cq i=false)→dt d0 fv [aj.bJ x] (T j) (fun o K=>o = .ret (.bool (cq j))∧K=T (j+1))) :
  bE d0 150 [.aC 6 (xs.map aj.bJ) .bc,fv] (T 0)
   (fun o K=>(o = .ret (.int .i64 (-1))∧K=T xs.length∧∀ i,i<xs.length→cq i=false)∨∃ j,j<xs.length∧cq j=true∧(∀ i,i<j→cq i=false)∧o = .ret (.int .i64 (j:Int))∧K=T (j+1)):=by
 have aq:=bC;refine bE.bj ai Tryz.func150 C C fun s I=>?_
 refine gg ?_;refine ad.x6 I (σ:=Nat) (fun j=>[(0,.aC 6 (xs.map aj.bJ) .bc),(1,fv),(7,.int .i64 xs.length),(8,.int .i64 (j:Int))]) T (fun j=>j≤xs.length∧∀ i,i<j→cq i=false) (fun j=>xs.length-j) 0 ⟨by omega,fun i aQ=>by omega⟩ z1 (aH.all _) ?_;rintro j ⟨aK,ak⟩ I;refine b2 ?_;refine ad.cond C (fun ar=>?_) (fun aV=>?_)
 ·have ar:j<xs.length:=by simpa using ar
  obtain ⟨x,ab,bL⟩:=bV (f:=aj.bJ) ar;have av:=h j x ab ak
  try rw [aj.bW] at bL av
  refine bB ?_;refine aa.gM rfl rfl rfl rfl rfl rfl av I (aH.all _) ?_ (fun _ _ ⟨h,_⟩ _=>by cases h);rintro _ _ ⟨⟨⟩,rfl⟩ I;rw [d7] at I ⊢;cases od:cq j with
  | true=>
   refine e5 ?_;exact Fin.bz I C aM (aH.all _) (.inr ⟨j,ar,od,ak,rfl,rfl⟩)
  | false=>
   refine bB ?_
   exact bn.mk (j+1) I ⟨ar,fun i aQ=>by
    rcases af1.1 aQ with aQ|rfl
    ·exact ak i aQ
    ·exact od⟩ b' (aH.all _) rR
 ·have aV:j=xs.length:=by
   have:xs.length≤j:=by simpa using aV
   omega
  subst aV;refine dB ?_;exact Fin.bz I C aM (aH.all _) (.inl ⟨rfl,rfl,ak⟩)
theorem Gi (fv:af) (xs:List aj) (T:Nat→a') (cq:Nat→Bool) (aB:xs.length<bu) (h:∀ j x,xs[j]? = some x→(∀ i,i<j→cq i=false)→dt d0 fv [aj.bJ x] (T j) (fun o K=>o = .ret (.bool (cq j))∧K=T (j+1))) :
  bE d0 102 [.aC 6 (xs.map aj.bJ) .bc,fv] (T 0)
   (fun o K=>(o = .ret (.bool false)∧K=T xs.length∧∀ i,i<xs.length→cq i=false)∨∃ j,j<xs.length∧cq j=true∧(∀ i,i<j→cq i=false)∧o = .ret (.bool true)∧K=T (j+1)):=by
 refine bE.bj ai Tryz.func102 C C fun s I=>?_
 refine dL ?_;refine aa.b9 rfl rfl rfl rfl rfl (La fv xs T cq aB h) I (aH.all _) ?_ (fun _ _ h _=>by rcases h with ⟨h,_⟩|⟨_,_,_,_,h,_⟩<;>cases h);rintro _ _ (⟨⟨⟩,rfl,U⟩|⟨j,U,ae,an,⟨⟩,rfl⟩) I
 all_goals rw [d7] at I ⊢
 ·refine eD ?_
  exact Fin.bz I C aM (aH.all _) (.inl ⟨rfl,rfl,U⟩)
 ·refine eD ?_
  exact Fin.bz I C (by simp;exact aM) (aH.all _) (.inr ⟨j,U,ae,an,rfl,rfl⟩)
theorem Tz (fv:af) (q:aj→Bool) (xs:List aj) (aB:xs.length<bu) (h:∀ x∈xs,eE d0 fv [aj.bJ x] (.bool (q x))) :
  aR d0 102 [.aC 6 (xs.map aj.bJ) .bc,fv] (.bool (xs.any q)):=
 Au (fun T cq en=>Gi fv xs T cq aB en) h
theorem TA (fv:af) (q:aj→Bool) (xs:List aj) (aB:xs.length<bu) (h:∀ x∈xs,eE d0 fv [aj.bJ x] (.bool (q x))) :
  aR d0 150 [.aC 6 (xs.map aj.bJ) .bc,fv] (.int .i64 (match xs.findIdx? q with|some i=>(i:Int)|none => -1)):=
 Ty (fun T cq en=>La fv xs T cq aB en) h
theorem TB (fv:af) (xs:List Int) (T:Nat→a') (cq:Nat→Bool) (aB:xs.length<bu) (h:∀ j x,xs[j]? = some x→(∀ i,i<j→cq i=false)→dt d0 fv [bb x] (T j) (fun o K=>o = .ret (.bool (cq j))∧K=T (j+1))) :
  bE d0 90 [.aC 1 (xs.map bb) .bc,fv] (T 0)
   (fun o K=>(o = .ret (.int .i64 (-1))∧K=T xs.length∧∀ i,i<xs.length→cq i=false)∨∃ j,j<xs.length∧cq j=true∧(∀ i,i<j→cq i=false)∧o = .ret (.int .i64 (j:Int))∧K=T (j+1)):=by
 have aq:=bC;refine bE.bj ai Tryz.func90 C C fun s I=>?_
 refine gg ?_;refine ad.x6 I (σ:=Nat) (fun j=>[(0,.aC 1 (xs.map bb) .bc),(1,fv),(7,.int .i64 xs.length),(8,.int .i64 (j:Int))]) T (fun j=>j≤xs.length∧∀ i,i<j→cq i=false) (fun j=>xs.length-j) 0 ⟨by omega,fun i aQ=>by omega⟩ z1 (aH.all _) ?_;rintro j ⟨aK,ak⟩ I;refine b2 ?_;refine ad.cond C (fun ar=>?_) (fun aV=>?_)
 ·have ar:j<xs.length:=by simpa using ar
  obtain ⟨x,ab,bL⟩:=bV (f:=bb) ar;have av:=h j x ab ak
  try rw [bb] at bL av
  refine bB ?_;refine aa.gM rfl rfl rfl rfl rfl rfl av I (aH.all _) ?_ (fun _ _ ⟨h,_⟩ _=>by cases h);rintro _ _ ⟨⟨⟩,rfl⟩ I;rw [d7] at I ⊢;cases od:cq j with
  | true=>
   refine e5 ?_;exact Fin.bz I C aM (aH.all _) (.inr ⟨j,ar,od,ak,rfl,rfl⟩)
  | false=>
   refine bB ?_
   exact bn.mk (j+1) I ⟨ar,fun i aQ=>by
    rcases af1.1 aQ with aQ|rfl
    ·exact ak i aQ
    ·exact od⟩ b' (aH.all _) rR
 ·have aV:j=xs.length:=by
   have:xs.length≤j:=by simpa using aV
   omega
  subst aV;refine dB ?_;exact Fin.bz I C aM (aH.all _) (.inl ⟨rfl,rfl,ak⟩)
theorem Lb (fv:af) (xs:List Int) (T:Nat→a') (cq:Nat→Bool) (aB:xs.length<bu) (h:∀ j x,xs[j]? = some x→(∀ i,i<j→cq i=false)→dt d0 fv [bb x] (T j) (fun o K=>o = .ret (.bool (cq j))∧K=T (j+1))) :
  bE d0 40 [.aC 1 (xs.map bb) .bc,fv] (T 0)
   (fun o K=>(o = .ret (.bool false)∧K=T xs.length∧∀ i,i<xs.length→cq i=false)∨∃ j,j<xs.length∧cq j=true∧(∀ i,i<j→cq i=false)∧o = .ret (.bool true)∧K=T (j+1)):=by
 refine bE.bj ai Tryz.func40 C C fun s I=>?_
 refine dL ?_;refine aa.b9 rfl rfl rfl rfl rfl (TB fv xs T cq aB h) I (aH.all _) ?_ (fun _ _ h _=>by rcases h with ⟨h,_⟩|⟨_,_,_,_,h,_⟩<;>cases h);rintro _ _ (⟨⟨⟩,rfl,U⟩|⟨j,U,ae,an,⟨⟩,rfl⟩) I
 all_goals rw [d7] at I ⊢
 ·refine eD ?_
  exact Fin.bz I C aM (aH.all _) (.inl ⟨rfl,rfl,U⟩)
 ·refine eD ?_
  exact Fin.bz I C (by simp;exact aM) (aH.all _) (.inr ⟨j,U,ae,an,rfl,rfl⟩)
theorem TC (fv:af) (q:Int→Bool) (xs:List Int) (aB:xs.length<bu) (h:∀ x∈xs,eE d0 fv [bb x] (.bool (q x))) :
  aR d0 40 [.aC 1 (xs.map bb) .bc,fv] (.bool (xs.any q)):=
 Au (fun T cq en=>Lb fv xs T cq aB en) h
theorem TD (fv:af) (xs:List (Int×Int)) (T:Nat→a') (cq:Nat→Bool) (aB:xs.length<bu) (h:∀ j x,xs[j]? = some x→(∀ i,i<j→cq i=false)→dt d0 fv [eJ x] (T j) (fun o K=>o = .ret (.bool (cq j))∧K=T (j+1))) :
  bE d0 241 [.aC 2 (xs.map eJ) .bc,fv] (T 0)
   (fun o K=>(o = .ret (.int .i64 (-1))∧K=T xs.length∧∀ i,i<xs.length→cq i=false)∨∃ j,j<xs.length∧cq j=true∧(∀ i,i<j→cq i=false)∧o = .ret (.int .i64 (j:Int))∧K=T (j+1)):=by
 have aq:=bC;refine bE.bj ai Tryz.func241 C C fun s I=>?_
 refine gg ?_;refine ad.x6 I (σ:=Nat) (fun j=>[(0,.aC 2 (xs.map eJ) .bc),(1,fv),(7,.int .i64 xs.length),(8,.int .i64 (j:Int))]) T (fun j=>j≤xs.length∧∀ i,i<j→cq i=false) (fun j=>xs.length-j) 0 ⟨by omega,fun i aQ=>by omega⟩ z1 (aH.all _) ?_;rintro j ⟨aK,ak⟩ I;refine b2 ?_;refine ad.cond C (fun ar=>?_) (fun aV=>?_)
 ·have ar:j<xs.length:=by simpa using ar
  obtain ⟨x,ab,bL⟩:=bV (f:=eJ) ar;have av:=h j x ab ak
  try rw [eJ] at bL av
  refine bB ?_;refine aa.gM rfl rfl rfl rfl rfl rfl av I (aH.all _) ?_ (fun _ _ ⟨h,_⟩ _=>by cases h);rintro _ _ ⟨⟨⟩,rfl⟩ I;rw [d7] at I ⊢;cases od:cq j with
  | true=>
   refine e5 ?_;exact Fin.bz I C aM (aH.all _) (.inr ⟨j,ar,od,ak,rfl,rfl⟩)
  | false=>
   refine bB ?_
   exact bn.mk (j+1) I ⟨ar,fun i aQ=>by
    rcases af1.1 aQ with aQ|rfl
    ·exact ak i aQ
    ·exact od⟩ b' (aH.all _) rR
 ·have aV:j=xs.length:=by
   have:xs.length≤j:=by simpa using aV
   omega
  subst aV;refine dB ?_;exact Fin.bz I C aM (aH.all _) (.inl ⟨rfl,rfl,ak⟩)
theorem TE (fv:af) (xs:List (Int×Int)) (T:Nat→a') (cq:Nat→Bool) (aB:xs.length<bu) (h:∀ j x,xs[j]? = some x→(∀ i,i<j→cq i=false)→dt d0 fv [eJ x] (T j) (fun o K=>o = .ret (.bool (cq j))∧K=T (j+1))) :
  bE d0 207 [.aC 2 (xs.map eJ) .bc,fv] (T 0)
   (fun o K=>(o = .ret (.bool false)∧K=T xs.length∧∀ i,i<xs.length→cq i=false)∨∃ j,j<xs.length∧cq j=true∧(∀ i,i<j→cq i=false)∧o = .ret (.bool true)∧K=T (j+1)):=by
 refine bE.bj ai Tryz.func207 C C fun s I=>?_
 refine dL ?_;refine aa.b9 rfl rfl rfl rfl rfl (TD fv xs T cq aB h) I (aH.all _) ?_ (fun _ _ h _=>by rcases h with ⟨h,_⟩|⟨_,_,_,_,h,_⟩<;>cases h);rintro _ _ (⟨⟨⟩,rfl,U⟩|⟨j,U,ae,an,⟨⟩,rfl⟩) I
 all_goals rw [d7] at I ⊢
 ·refine eD ?_
  exact Fin.bz I C aM (aH.all _) (.inl ⟨rfl,rfl,U⟩)
 ·refine eD ?_
  exact Fin.bz I C (by simp;exact aM) (aH.all _) (.inr ⟨j,U,ae,an,rfl,rfl⟩)
theorem TF (fv:af) (q:(Int×Int)→Bool) (xs:List (Int×Int)) (aB:xs.length<bu) (h:∀ x∈xs,eE d0 fv [eJ x] (.bool (q x))) :
  aR d0 207 [.aC 2 (xs.map eJ) .bc,fv] (.bool (xs.any q)):=
 Au (fun T cq en=>TE fv xs T cq aB en) h
theorem TG (fv:af) (xs:List dD) (T:Nat→a') (cq:Nat→Bool) (aB:xs.length<bu) (h:∀ j x,xs[j]? = some x→(∀ i,i<j→cq i=false)→dt d0 fv [ho x] (T j) (fun o K=>o = .ret (.bool (cq j))∧K=T (j+1))) :
  bE d0 264 [.aC 2 (xs.map ho) .bc,fv] (T 0)
   (fun o K=>(o = .ret (.int .i64 (-1))∧K=T xs.length∧∀ i,i<xs.length→cq i=false)∨∃ j,j<xs.length∧cq j=true∧(∀ i,i<j→cq i=false)∧o = .ret (.int .i64 (j:Int))∧K=T (j+1)):=by
 have aq:=bC;refine bE.bj ai Tryz.func264 C C fun s I=>?_
 refine gg ?_;refine ad.x6 I (σ:=Nat) (fun j=>[(0,.aC 2 (xs.map ho) .bc),(1,fv),(7,.int .i64 xs.length),(8,.int .i64 (j:Int))]) T (fun j=>j≤xs.length∧∀ i,i<j→cq i=false) (fun j=>xs.length-j) 0 ⟨by omega,fun i aQ=>by omega⟩ z1 (aH.all _) ?_;rintro j ⟨aK,ak⟩ I;refine b2 ?_;refine ad.cond C (fun ar=>?_) (fun aV=>?_)
 ·have ar:j<xs.length:=by simpa using ar
  obtain ⟨x,ab,bL⟩:=bV (f:=ho) ar;have av:=h j x ab ak
  try rw [ho] at bL av
  refine bB ?_;refine aa.gM rfl rfl rfl rfl rfl rfl av I (aH.all _) ?_ (fun _ _ ⟨h,_⟩ _=>by cases h);rintro _ _ ⟨⟨⟩,rfl⟩ I;rw [d7] at I ⊢;cases od:cq j with
  | true=>
   refine e5 ?_;exact Fin.bz I C aM (aH.all _) (.inr ⟨j,ar,od,ak,rfl,rfl⟩)
  | false=>
   refine bB ?_
   exact bn.mk (j+1) I ⟨ar,fun i aQ=>by
    rcases af1.1 aQ with aQ|rfl
    ·exact ak i aQ
    ·exact od⟩ b' (aH.all _) rR
 ·have aV:j=xs.length:=by
   have:xs.length≤j:=by simpa using aV
   omega
  subst aV;refine dB ?_;exact Fin.bz I C aM (aH.all _) (.inl ⟨rfl,rfl,ak⟩)
theorem TH (fv:af) (xs:List dD) (T:Nat→a') (cq:Nat→Bool) (aB:xs.length<bu) (h:∀ j x,xs[j]? = some x→(∀ i,i<j→cq i=false)→dt d0 fv [ho x] (T j) (fun o K=>o = .ret (.bool (cq j))∧K=T (j+1))) :
  bE d0 239 [.aC 2 (xs.map ho) .bc,fv] (T 0)
   (fun o K=>(o = .ret (.bool false)∧K=T xs.length∧∀ i,i<xs.length→cq i=false)∨∃ j,j<xs.length∧cq j=true∧(∀ i,i<j→cq i=false)∧o = .ret (.bool true)∧K=T (j+1)):=by
 refine bE.bj ai Tryz.func239 C C fun s I=>?_
 refine dL ?_;refine aa.b9 rfl rfl rfl rfl rfl (TG fv xs T cq aB h) I (aH.all _) ?_ (fun _ _ h _=>by rcases h with ⟨h,_⟩|⟨_,_,_,_,h,_⟩<;>cases h);rintro _ _ (⟨⟨⟩,rfl,U⟩|⟨j,U,ae,an,⟨⟩,rfl⟩) I
 all_goals rw [d7] at I ⊢
 ·refine eD ?_
  exact Fin.bz I C aM (aH.all _) (.inl ⟨rfl,rfl,U⟩)
 ·refine eD ?_
  exact Fin.bz I C (by simp;exact aM) (aH.all _) (.inr ⟨j,U,ae,an,rfl,rfl⟩)
theorem TI (fv:af) (q:dD→Bool) (xs:List dD) (aB:xs.length<bu) (h:∀ x∈xs,eE d0 fv [ho x] (.bool (q x))) :
  aR d0 239 [.aC 2 (xs.map ho) .bc,fv] (.bool (xs.any q)):=
 Au (fun T cq en=>TH fv xs T cq aB en) h
end Go.Proofs.YtnafpeohfbglmaaGreat
namespace Go.cW
theorem Lc {s s1:ao} {w df:World} {p k5:bT} {T:TypeId} {v:Value} {b:Nat} (hle:de w p df k5) (aD:Kept s s1 w p df k5) (cd:dq df k5 s1) (Av:df.heap[b]? = some (.cells #[v] T (0,0)))
  (aq:w.heap.size≤b) (aE:∀ o,¬ k5 b o) (au:s1 b=none) (x:Value) :
  de w p (df.setRow b #[x]) k5∧Kept s s1 w p (df.setRow b #[x]) k5∧dq (df.setRow b #[x]) k5 s1∧de df k5 (df.setRow b #[x]) k5∧(df.setRow b #[x]).heap[b]? = some (.cells #[x] T (0,0)):=by
 have k0:dq df k5 (s1.set b (.box T [.any])):=by
  refine ⟨fun aX o dO=>?_,cd.lt⟩;by_cases e:aX=b
  ·subst e;rw [ao.gu] at dO;cases dO
   exact ⟨_,Av,.cons _ _ _ _ (.any v) .nil,aE⟩
  ·rw [ao.fA _ _ e] at dO;exact cd.obj aX o dO
 obtain ⟨cA,db,fe⟩:=vM k0 (ao.gu _ _ _) (vs' := #[x]) (cs':=[.any]) (fun vs av=>by rw [Av] at av;cases av;rfl) (.cons _ _ _ _ (.any x) .nil) _ C;have TJ:∀ aX,aX≠b→(df.setRow b #[x]).heap[aX]? = df.heap[aX]?:=by
  intro aX dO;simp only [World.setRow];rw [al6,d9 (Ne.symm dO)]
 refine ⟨hle.trans cA,⟨fun aX dO az=>(TJ aX ag).trans (aD.heap aX dO az),aD.kV,aD.lk⟩,fe.sub (fun aX=>?_),cA,?_⟩
 ·by_cases e:aX=b
  ·subst e;exact .inr au
  ·left;rw [ao.fA _ _ e,ao.fA _ _ e]
 ·simp only [World.setRow]
  rw [al6,f9 C,Av];rfl
theorem Ld {w:World} {b:Nat} {v x:Value} {T:TypeId} (h:w.heap[b]? = some (.cells #[v] T (0,0))):w.setCell ⟨b,0,none⟩ x=w.setRow b #[x]:=by
 simp only [World.setCell,World.setRow];congr 1;refine at3 fun i=>?_
 rw [al6,al6];by_cases e:b=i
 ·subst e;rw [f9 C,f9 C,h];rfl
 ·rw [d9 e,d9 e]
theorem Gj:∀ {rest:List PanicEntry},(∀ e∈rest,e.goexit=false)→rest.dropWhile (fun e => !e.goexit)=[]
 | [],_=>rfl
 | e::r,h=>by rw [List.dropWhile_cons,h e i7];simp only [ah0,if_true];exact Gj fun e' he=>h e' (i5 _ he)
theorem ad.use {P:Program} {N:Nat} {c:Code} {Q:b8→Env→ao→Prop} {env:Env} {s:ao} (h:ad P N c Q env s) {b:Frame} {B:fP} {a:Act} {w:World} {p:bT} (aZ:(P.funcs[b.fn]?).isSome=true) (aI:dz N B b.roundOf env s a w p) :
  jT P b c (ku N B b.roundOf s w p Q) a w:=h b B a w p aZ aI
theorem dt.frame {P:Program} {fv:af} {args:List af} {K L R:a'} {acv D:eB→a'→Prop} (h:dt P fv args K acv) (au:aH L K R) (e4:∀ o aO,acv o aO→D o (aO++R)):dt P fv args L D:=
 fun s I=>(h.at I au).mono fun o al ⟨TK,e,yf,aO,Gk,Gl⟩=>by
  subst Gk;exact ⟨_,e,yf,e4 o aO Gl⟩
theorem a7.Gm {P:Program} {Γ:cz} {N:Nat} {env:Env} {s:ao} {o:Oper} (aP:bQ P Γ) {t yt e:TypeId} {x:Operand} {it:bN} {sz:Nat} {xs:List af} {own:bM} (ah:o.op = .binOp .eql t x (.const (.slice none 0 0)) yt)
  (aN:Γ.get? t=some it) (bs:it.bG = .aC e) (ab:aL env x=some (.aC sz xs own)) {X:af→ao→Prop} :
  a7 P N o env s (fun r al=>al=s∧((r = .bool true∧xs=[])∨r = .bool false)) X:=by
 refine a7.ky (by simp [cW.gJ,ah]) fun ro B a w p aI=>?_
 obtain ⟨info,d,U,ae,an,bd,bD,fk⟩:=aP.parts aN;have hu:=aI.aL ab;have ax:∃ e,d = .slice e:=by
  rw [bs] at an;cases d<;>simp [ez] at an<;>exact ⟨_,rfl⟩
 obtain ⟨e',rfl⟩:=ax;have cN:∀ q,(binOp .eql t (a.eval x) (.slice none 0 0)).run P w = .ok (.bool q) w→(∀ c,a.eval x ≠ .agg c)→(execOp a.eval o).run P w = .ok (.value (.bool q)) w:=by
  intro q bq aA;unfold execOp;rw [ah];refine gV ?_;show (do eqGuard .eql t x (.const (.slice none 0 0)) (a.eval x) (.slice none 0 0);binOp .eql t (a.eval x) (.slice none 0 0):Sem Value).run P w=_;rw [aa',sR w ⟨fun _=>⟨_,rfl⟩,aA⟩,g9,bq]
 generalize a.eval x=dX at hu cN;cases hu with
 | hY _ _ _=>exact ⟨_,_,s,p,.bool true,cN true (vG C C (fun d=>by simp [Op.equalIn,run_underlying ae])).1 ba,.refl w p,.refl s w p,aI.wf,⟨rfl,.inl ⟨rfl,rfl⟩⟩,.bool _⟩
 | iA a _ _ _=>exact ⟨_,_,s,p,.bool false,cN false (vG C C (fun d=>by simp [Op.equalIn,run_underlying ae])).1 ba,.refl w p,.refl s w p,aI.wf,⟨rfl,.inr C⟩,.bool _⟩
 | aC g off n cap _ vs _ _ az aB aA aF au hm aD ct ah=>exact ⟨_,_,s,p,.bool false,cN false (vG C C (fun d=>by simp [Op.equalIn,run_underlying ae])).1 ba,.refl w p,.refl s w p,aI.wf,⟨rfl,.inr C⟩,.bool _⟩
def aJ (J:ao→Prop) (P:Program) (Γ:cz) (N:Nat) (l:List Oper) (i:Nat) (rest:List Oper) (Q:b8→Env→ao→Prop) (env:Env) (s:ao):Prop:=
 rK l.toArray=true→l.drop i=rest→J s→bo J P Γ N l.toArray Q (bX (2^i-1)) env s
theorem De (i:Nat):(2^i-1)|||2^i=2^(i+1)-1:=by
 apply ak';intro j;rw [aj8,af9,af9,aj0];by_cases h:i=j
 ·subst h;simp
 ·by_cases ae:j<i
  ·simp [ae];omega
  ·simp [ae,h];omega
theorem wM {α:Type} {l:List α} {i:Nat} {o:α} {rest:List α} (h:l.drop i=o::rest):l[i]? = some o∧l.drop (i+1)=rest:=by
 have U:l[i]? = some o:=by
  have:=congrArg (fun x=>x[0]?) h;simpa using this
 refine ⟨U,?_⟩;have:l.drop (i+1)=(l.drop i).drop 1:=by rw [List.drop_drop]
 rw [this,h];rfl
theorem Gn {l:List Oper} (dJ:rK l.toArray=true) {i:Nat} {o:Oper} (ah:l[i]? = some o):hj l.toArray (bX (2^i-1)) i:=by
 refine ⟨by simpa using (ac3.1 ah).1,?_,fun j aK=>?_⟩
 ·simp [bX,af9]
 ·have:=(Fm dJ).back i j aK
  simp [bX,af9,this]
section
variable {J:ao→Prop} {P:Program} {Γ:cz} {N:Nat} {l:List Oper} {i:Nat} {rest:List Oper} {Q:b8→Env→ao→Prop} {env:Env} {s:ao} {o:Oper} {d:Nat}
theorem ad.lX (aP:bQ P Γ) (hm:P.follows .mixedOrders=true) {id:Nat} (dJ:rK l.toArray=true) (h:aJ (fun al=>al=s) P Γ N l 0 l Q env s):ad P N (.region id l.toArray true) Q env s:=
 ad.qC _ aP hm dJ (h dJ C C)
theorem ad.nB (aP:bQ P Γ) (hm:P.follows .mixedOrders=true) {id:Nat} (dJ:rK l.toArray=true) (h:aJ nz P Γ N l 0 l Q env s):ad P N (.region id l.toArray true) Q env s:=
 ad.qC _ aP hm dJ (h dJ C trivial)
theorem aJ.nil (h:Q .normal env s):aJ J P Γ N l i [] Q env s:=fun dJ jz _=>by
 refine bo.fin (fun j aK=>?_) h;have:l.length≤i:=by simpa using jz
 have aK:j<l.length:=by simpa using aK
 simp [bX,af9];omega
theorem aJ.still {v:af} (ax:o.dst=some d) (aW:d<N) (av:Still J P Γ N l.toArray o (b4 l env o) v) (h:aJ J P Γ N l (i+1) rest Q ((d,v)::env) s):aJ J P Γ N l i (o::rest) Q env s:=fun dJ jz cD=>by
 obtain ⟨ah,qO⟩:=wM jz;refine bo.still cD i o d v (Gn dJ ah) (by simpa using ah) ax aW av ?_;rw [oV,De];exact h dJ qO cD
theorem aJ.step {v:af} (aN:wh Γ N l.toArray (b4 l env o) o=some (d,v)) (h:aJ J P Γ N l (i+1) rest Q ((d,v)::env) s):aJ J P Γ N l i (o::rest) Q env s:=by
 obtain ⟨U,ae,an⟩:=Cy (J:=J) (P:=P) aN;exact aJ.still U ae an h
def runK (Γ:cz) (N:Nat) (ops:Array Oper):List Oper→Nat→Env→List Oper×Nat×Env
  | [],i,env=>([],i,env)
  | o::l,i,env=>match wh Γ N ops (iE env (looks ops o)) o with
    | some (d,v)=>runK Γ N ops l (i+1) ((d,v)::env)
    | none=>(o::l,i,env)
theorem aJ.run {Le:List Oper} {B3:Nat} {eT:Env} (h:runK Γ N l.toArray rest i env=(Le,B3,eT)) (aD:aJ J P Γ N l B3 Le Q eT s):aJ J P Γ N l i rest Q env s:=by
 induction rest generalizing i env with
 | nil=>simp only [runK,Prod.mk.injEq] at h;obtain ⟨rfl,rfl,rfl⟩:=h;exact aD
 | cons o r a6=>
  simp only [runK] at h;split at h
  ·rename_i d v aN
   exact aJ.step aN (a6 h)
  ·simp only [Prod.mk.injEq] at h;obtain ⟨rfl,rfl,rfl⟩:=h;exact aD
theorem aJ.pure {v:af} (aw:c9 l env o) (ax:o.dst=some d) (aW:t6 d N=true) (av:lQ Γ o (b4 l env o) v) (h:aJ J P Γ N l (i+1) rest Q ((d,v)::env) s):aJ J P Γ N l i (o::rest) Q env s:=
 aJ.still ax CB (.inl ⟨aw,av⟩) h
theorem aJ.iD {v:af} (aw:c9 l env o) (ax:o.dst=some d) (aW:t6 d N=true) (av:vW Γ o (b4 l env o)=some v) (h:aJ J P Γ N l (i+1) rest Q ((d,v)::env) s):aJ J P Γ N l i (o::rest) Q env s:=
 aJ.pure aw ax aW (.x av) h
theorem aJ.calm {v:af} (aw:c9 l env o) (ax:o.dst=some d) (aW:t6 d N=true) (av:∀ s,J s→a7 P N o (b4 l env o) s (fun x al=>x=v∧al=s) (fun _ _=>False)) (h:aJ J P Γ N l (i+1) rest Q ((d,v)::env) s):aJ J P Γ N l i (o::rest) Q env s:=
 aJ.still ax CB (.inr (.inr ⟨aw,av⟩)) h
theorem aJ.idx {t e:TypeId} {x y:Operand} {it aG:bN} {sz:Nat} {xs:List af} {own:bM} {k:IntKind} {n:Int} (j:Nat) {v:af} {cs:List af} (aw:c9 l env o) (ax:o.dst=some d) (aW:t6 d N=true) (b5:o.op = .indexAddr t x y) (aN:Γ.get? t=some it) (bs:it.bG = .aC e) (bI:Γ.get? e=some aG)
  (ab:aL (b4 l env o) x=some (.aC sz xs own)) (ca:sz=aG.size) (ay:aL (b4 l env o) y=some (.int k n)) (eN:n=(j:Int)) (aK:xs[j]? = some v) (aA:cellsOf v=some cs)
  (h:aJ J P Γ N l (i+1) rest Q ((d,.bA cs 0)::env) s):aJ J P Γ N l i (o::rest) Q env s:=
 aJ.pure aw ax aW (.idx j b5 aN bs bI ab ca ay eN aK aA) h
theorem aJ.slice {t e:TypeId} {x:Operand} {gE aQ jt:Option Operand} {it aG:bN} {sz:Nat} {xs:List af} {own cQ:bM} (a b:Nat) (aw:c9 l env o) (ax:o.dst=some d) (aW:t6 d N=true)
  (b5:o.op = .slice t x gE aQ jt)
  (aN:Γ.get? t=some it) (bs:it.bG = .aC e) (bI:Γ.get? e=some aG) (ab:aL (b4 l env o) x=some (.aC sz xs own)) (ca:xs=[]∨sz=aG.size)
  (hF:(gE=none∧a=0)∨∃ y k,gE=some y∧aL (b4 l env o) y=some (.int k (a:Int))) (qv:(aQ=none∧jt=none∧b=xs.length)∨∃ y k,aQ=some y∧aL (b4 l env o) y=some (.int k (b:Int)))
  (nv:(jt=none∧cQ = .bc)∨(∃ y k,jt=some y∧aL (b4 l env o) y=some (.int k (b:Int))∧cQ = .clip)) (aB:a≤b) (cP:b≤xs.length)
  (h:aJ J P Γ N l (i+1) rest Q ((d,.aC sz ((xs.take b).drop a) cQ)::env) s):aJ J P Γ N l i (o::rest) Q env s:=
 aJ.pure aw ax aW (.slice a b b5 aN bs bI ab ca hF qv nv aB cP) h
theorem aJ.dQ {f:FuncId} {fS:Array Operand} {c0:Array TypeId} {xs:List af} {v:af} (aw:c9 l env o) (ax:o.dst=some d) (aW:t6 d N=true)
  (b5:o.op = .call { callee := .value (.func f),args:=fS,argTypes:=c0 }) (a8:fQ (b4 l env o) fS.toList=some xs) (aA:aR P f xs v) (h:aJ J P Γ N l (i+1) rest Q ((d,v)::env) s):aJ J P Γ N l i (o::rest) Q env s:=
 aJ.calm aw ax aW (fun s _=>(a7.call b5 (fv := .func f [] []) rfl a8 (hT.fp (R:=fun o al=>o = .ret v∧al=s) (by simpa using aA s))).mono (fun x al h=>by cases h.1;exact ⟨rfl,h.2⟩) (fun x al h=>by cases h.1)) h
theorem aJ.mr {g:Operand} {fv:af} {fS:Array Operand} {c0:Array TypeId} {xs:List af} {v:af} (aw:c9 l env o) (ax:o.dst=some d) (aW:t6 d N=true)
  (b5:o.op = .call { callee := .value g,args:=fS,argTypes:=c0 }) (av:aL (b4 l env o) g=some fv) (a8:fQ (b4 l env o) fS.toList=some xs) (aA:eE P fv xs v) (h:aJ J P Γ N l (i+1) rest Q ((d,v)::env) s):aJ J P Γ N l i (o::rest) Q env s:=
 aJ.calm aw ax aW (fun s _=>(a7.call b5 av a8 (aA s)).mono (fun x al h=>by cases h.1;exact ⟨rfl,h.2⟩) (fun x al h=>by cases h.1)) h
theorem aJ.eC {L R:a'} (aP:bQ P Γ) (I:Ok s L) {t T:TypeId} {x:Operand} {ee:bN} {b off:Nat} {cs:List af} {v:af} (aw:c9 l env o) (ax:o.dst=some d) (aW:t6 d N=true)
  (b5:o.op = .load t x) (aN:Γ.get? t=some ee) (ab:aL (b4 l env o) x=some (.ptr b off)) (au:bp L (.own b) (.box T cs) R) (av:hO ee cs off=some v)
  (h:aJ (fun al=>al=aT s L) P Γ N l (i+1) rest Q ((d,v)::env) (aT s L)):aJ (fun al=>al=aT s L) P Γ N l i (o::rest) Q env (aT s L):=
 aJ.calm aw ax aW (fun _ e=>by subst e;exact a7.eC aP I b5 aN ab au av) h
theorem aJ.split (t:Nat) {b:Bool} (av:env.get? t=some (.bool b)) (en:b=true→aJ J P Γ N l i rest Q ((t,.bool true)::env) s) (lS:b=false→aJ J P Γ N l i rest Q ((t,.bool false)::env) s):aJ J P Γ N l i rest Q env s:=by
 have U:∀ u,Env.get? ((t,.bool b)::env) u=env.get? u:=fun u=>by
  rw [Env.get?];split
  ·rename_i hu;rw [← ac1 hu];exact av.symm
  ·rfl
 intro dJ jz cD;refine bo.congr _ U ?_;cases b with
 | true=>exact en C dJ jz cD
 | false=>exact lS C dJ jz cD
theorem aJ.gA {t:Nat} {b:Bool} (au:Kb l.toArray o=some t) (av:env.get? t=some (.bool b)) (en:b=true→aJ J P Γ N l i (o::rest) Q ((t,.bool true)::env) s) (lS:b=false→aJ J P Γ N l i (o::rest) Q ((t,.bool false)::env) s):aJ J P Γ N l i (o::rest) Q env s:=
 aJ.split t av en lS
theorem aJ.same (b:Bool) (aw:guardOf l.toArray (b4 l env o) o=some b) (h:aJ J P Γ N l i (o::rest) Q env s):aJ J P Γ N l i (o::rest) Q env s:=h
theorem Lf {l:List Oper} (dJ:rK l.toArray=true) {i:Nat} {o:Oper} (jz:l.drop i=[o]):∀ j,hj l.toArray (bX (2^i-1)) j→j=i:=fun j aK=>by
 obtain ⟨ah,qO⟩:=wM jz;have ae:l.length≤i+1:=by simpa using qO
 have an:j<l.length:=by simpa using aK.1
 have bd:=aK.2.1;simp [bX,af9] at bd;omega
theorem Lg {l:List Oper} {i:Nat} {o:Oper} (jz:l.drop i=[o]):∀ j,j<l.toArray.size→ej (bX (2^i-1)) i j=true:=fun j aK=>by
 obtain ⟨ah,qO⟩:=wM jz;have ae:l.length≤i+1:=by simpa using qO
 have an:j<l.length:=by simpa using aK
 rw [oV,De];simp [bX,af9];omega
theorem aJ.last {K X:af→ao→Prop} (aw:c9 l env o) (ax:o.dst=some d) (aW:t6 d N=true) (l2:kE l.toArray i=true) (h:a7 P N o (b4 l env o) s K X)
  (aD:∀ x al,K x al→Q .normal ((d,x)::env) al) (ab:∀ x al,X x al→Q (.panic x) [] al):aJ J P Γ N l i [o] Q env s:=fun dJ jz _=>by
 obtain ⟨ah,qO⟩:=wM jz;have jd:=Gn dJ ah;have fq:=Lf dJ jz;refine bo.split (fun _=>K) (fun _=>X) ⟨i,jd.1,jd.2.1⟩ (fun j o' aK cF=>?_) (fun j o' wi cF x al bh=>by have:=fq j wi;subst this;exact .inr (CA l2)) (fun j o' c6 aK cF cm x al bh=>?_) (fun j o' aK cF cm x al bh=>?_) (fun j o' aK cF x al iB=>ab x al iB)
 ·have:=fq j aK;subst this
  have cF:l[j]? = some o':=by simpa using cF
  rw [ah] at cF;cases cF;exact ⟨aw,h,fun c6 cm=>by rw [ax] at cm;cases cm;simpa [Nat.blt_eq] using aW⟩
 ·have:=fq j aK;subst this
  have cF:l[j]? = some o':=by simpa using cF
  rw [ah] at cF;cases cF;rw [ax] at cm;cases cm;exact bo.fin (Lg jz) (aD x al bh)
 ·have:=fq j aK;subst this
  have cF:l[j]? = some o':=by simpa using cF
  rw [ah] at cF;cases cF;rw [ax] at cm;cases cm
theorem aJ.Gp {K X:af→ao→Prop} (aw:c9 l env o) (ax:o.dst=none) (l2:kE l.toArray i=true) (h:a7 P N o (b4 l env o) s K X)
  (aD:∀ x al,K x al→Q .normal env al) (ab:∀ x al,X x al→Q (.panic x) [] al):aJ J P Γ N l i [o] Q env s:=fun dJ jz _=>by
 obtain ⟨ah,qO⟩:=wM jz;have jd:=Gn dJ ah;have fq:=Lf dJ jz;refine bo.split (fun _=>K) (fun _=>X) ⟨i,jd.1,jd.2.1⟩ (fun j o' aK cF=>?_) (fun j o' wi cF x al bh=>by have:=fq j wi;subst this;exact .inr (CA l2)) (fun j o' c6 aK cF cm x al bh=>?_) (fun j o' aK cF cm x al bh=>?_) (fun j o' aK cF x al iB=>ab x al iB)
 ·have:=fq j aK;subst this
  have cF:l[j]? = some o':=by simpa using cF
  rw [ah] at cF;cases cF;exact ⟨aw,h,fun c6 cm=>by rw [ax] at cm;cases cm⟩
 ·have:=fq j aK;subst this
  have cF:l[j]? = some o':=by simpa using cF
  rw [ah] at cF;cases cF;rw [ax] at cm;cases cm
 ·have:=fq j aK;subst this
  have cF:l[j]? = some o':=by simpa using cF
  rw [ah] at cF;cases cF;exact bo.fin (Lg jz) (aD x al bh)
theorem aJ.cS {L R:a'} (aP:bQ P Γ) (I:Ok s L) {t T:TypeId} {x y:Operand} {ee:bN} {b off:Nat} {cs us:List af} {v:af} (aw:c9 l env o) (ax:o.dst=none) (l2:kE l.toArray i=true)
  (b5:o.op = .store t x y) (aN:Γ.get? t=some ee) (ab:aL (b4 l env o) x=some (.ptr b off)) (ay:aL (b4 l env o) y=some v)
  (av:cellsOf v=some us) (hu:ac' us.length ee.size=true) (U:us.all fa=true) (au:bp L (.own b) (.box T cs) R) (fB:Nat.ble (off+us.length) cs.length=true)
  (h:Ok s ((.own b,.box T (eU off us cs))::R)→Q .normal env (aT s ((.own b,.box T (eU off us cs))::R))):aJ J P Γ N l i [o] Q env (aT s L):=
 aJ.Gp aw ax l2 (a7.cS aP I b5 aN ab ay av hu U au fB (X:=fun _ _=>False)) (fun x al ⟨U,ae⟩=>by subst U;exact h ae) (fun _ _ h=>h.elim)
theorem aJ.b9 {L R K:a'} {acv:eB→a'→Prop} {f:FuncId} {fS:Array Operand} {c0:Array TypeId} {xs:List af} (aw:c9 l env o) (ax:o.dst=some d) (aW:t6 d N=true) (l2:kE l.toArray i=true)
  (b5:o.op = .call { callee := .value (.func f),args:=fS,argTypes:=c0 }) (a8:fQ (b4 l env o) fS.toList=some xs) (h:bE P f xs K acv) (I:Ok s L) (au:aH L K R)
  (aD:∀ x aO,acv (.ret x) aO→Ok s (aO++R)→Q .normal ((d,x)::env) (aT s (aO++R))) (ab:∀ x aO,acv (.panic x) aO→Ok s (aO++R)→Q (.panic x) [] (aT s (aO++R))):aJ J P Γ N l i [o] Q env (aT s L):=
 aJ.last aw ax aW l2 (a7.b9 b5 a8 h I au) (fun x al ⟨aO,U,ae,an⟩=>by subst U;exact aD x aO an ae) (fun x al ⟨aO,U,ae,an⟩=>by subst U;exact ab x aO an ae)
theorem aJ.yg {K X:af→ao→Prop} (aw:c9 l env o) (ax:o.dst=some d) (aW:t6 d N=true) (aF:eI l.toArray (2^i-1) (idxs 0 l)=[i]) (h:a7 P N o (b4 l env o) s K X) (aK:∀ x al,K x al→J al)
  (aD:∀ x al,K x al→aJ J P Γ N l (i+1) rest Q ((d,x)::env) al) (ab:∀ x al,X x al→Q (.panic x) [] al):aJ J P Γ N l i (o::rest) Q env s:=fun dJ jz _=>by
 obtain ⟨ah,qO⟩:=wM jz;refine bo.one aF (by simpa using ah) ax aW aw h (fun x al bh => .inl (aK x al bh)) (fun x al bh=>?_) ab;rw [De];exact aD x al bh dJ qO (aK x al bh)
theorem aJ.TL {K X:af→ao→Prop} (aw:c9 l env o) (ax:o.dst=none) (aF:eI l.toArray (2^i-1) (idxs 0 l)=[i]) (h:a7 P N o (b4 l env o) s K X) (aK:∀ x al,K x al→J al)
  (aD:∀ x al,K x al→aJ J P Γ N l (i+1) rest Q env al) (ab:∀ x al,X x al→Q (.panic x) [] al):aJ J P Γ N l i (o::rest) Q env s:=fun dJ jz _=>by
 obtain ⟨ah,qO⟩:=wM jz;refine bo.x1 aF (by simpa using ah) ax aw h (fun x al bh => .inl (aK x al bh)) (fun x al bh=>?_) ab;rw [De];exact aD x al bh dJ qO (aK x al bh)
theorem aJ.yh {L:a'} (aP:bQ P Γ) (I:Ok s L) {t:TypeId} {ee:bN} {z:af} {cs:List af} (aw:c9 l env o) (ax:o.dst=some d) (aW:t6 d N=true) (aF:eI l.toArray (2^i-1) (idxs 0 l)=[i])
  (b5:o.op = .alloc t) (aN:Γ.get? t=some ee) (bO:hC ee.zero=some z) (aA:cellsOf z=some cs)
  (h:∀ b,Ok s ((.own b,.box t cs)::L)→aJ nz P Γ N l (i+1) rest Q ((d,.ptr b 0)::env) (aT s ((.own b,.box t cs)::L))):aJ nz P Γ N l i (o::rest) Q env (aT s L):=
 aJ.yg aw ax aW aF (a7.d' aP I b5 aN bO aA (X:=fun _ _=>False)) (fun _ _ _=>trivial) (fun x al ⟨b,U,ae,an⟩=>by subst U;subst ae;exact h b an) (fun _ _ h=>h.elim)
theorem aJ.storeT {L R:a'} (aP:bQ P Γ) (I:Ok s L) {t T:TypeId} {x y:Operand} {ee:bN} {b off:Nat} {cs us:List af} {v:af} (aw:c9 l env o) (ax:o.dst=none) (aF:eI l.toArray (2^i-1) (idxs 0 l)=[i])
  (b5:o.op = .store t x y) (aN:Γ.get? t=some ee) (ab:aL (b4 l env o) x=some (.ptr b off)) (ay:aL (b4 l env o) y=some v)
  (av:cellsOf v=some us) (hu:ac' us.length ee.size=true) (U:us.all fa=true) (au:bp L (.own b) (.box T cs) R) (fB:Nat.ble (off+us.length) cs.length=true)
  (h:Ok s ((.own b,.box T (eU off us cs))::R)→aJ nz P Γ N l (i+1) rest Q env (aT s ((.own b,.box T (eU off us cs))::R))):aJ nz P Γ N l i (o::rest) Q env (aT s L):=
 aJ.TL aw ax aF (a7.cS aP I b5 aN ab ay av hu U au fB (X:=fun _ _=>False)) (fun _ _ _=>trivial) (fun x al ⟨U,ae⟩=>by subst U;exact h ae) (fun _ _ h=>h.elim)
theorem aJ.loadT {L R:a'} (aP:bQ P Γ) (I:Ok s L) {t T:TypeId} {x:Operand} {ee:bN} {b off:Nat} {cs:List af} {v:af} (aw:c9 l env o) (ax:o.dst=some d) (aW:t6 d N=true) (aF:eI l.toArray (2^i-1) (idxs 0 l)=[i])
  (b5:o.op = .load t x) (aN:Γ.get? t=some ee) (ab:aL (b4 l env o) x=some (.ptr b off)) (au:bp L (.own b) (.box T cs) R) (av:hO ee cs off=some v)
  (h:aJ nz P Γ N l (i+1) rest Q ((d,v)::env) (aT s L)):aJ nz P Γ N l i (o::rest) Q env (aT s L):=
 aJ.yg aw ax aW aF (a7.eC aP I b5 aN ab au av (X:=fun _ _=>False)) (fun _ _ _=>trivial) (fun x al ⟨U,ae⟩=>by subst U;subst ae;exact h) (fun _ _ h=>h.elim)
theorem aJ.kM {L R K:a'} {acv:eB→a'→Prop} {f:FuncId} {fS:Array Operand} {c0:Array TypeId} {xs:List af} (aw:c9 l env o) (ax:o.dst=some d) (aW:t6 d N=true) (aF:eI l.toArray (2^i-1) (idxs 0 l)=[i])
  (b5:o.op = .call { callee := .value (.func f),args:=fS,argTypes:=c0 }) (a8:fQ (b4 l env o) fS.toList=some xs) (h:bE P f xs K acv) (I:Ok s L) (au:aH L K R)
  (aD:∀ x aO,acv (.ret x) aO→Ok s (aO++R)→aJ nz P Γ N l (i+1) rest Q ((d,x)::env) (aT s (aO++R))) (ab:∀ x aO,acv (.panic x) aO→Ok s (aO++R)→Q (.panic x) [] (aT s (aO++R))):aJ nz P Γ N l i (o::rest) Q env (aT s L):=
 aJ.yg aw ax aW aF (a7.b9 b5 a8 h I au) (fun _ _ _=>trivial) (fun x al ⟨aO,U,ae,an⟩=>by subst U;exact aD x aO an ae) (fun x al ⟨aO,U,ae,an⟩=>by subst U;exact ab x aO an ae)
end
def yi (i:bN):Bool:=match i.bG with
 | .struct _=>false
 | .arr _ _=>false
 | .other=>false
 | _=>true
theorem TM {cs:List af} {off:Nat} {v:af} (h:cs[off]? = some v):qo off cs=some (v::cs.drop (off+1)):=by
 induction off generalizing cs with
 | zero=>
  cases cs with
  | nil=>cases h
  | cons x r=>simp at h;subst h;rfl
 | succ n a6=>
  cases cs with
  | nil=>cases h
  | cons x r=>
   have:=a6 (cs:=r) fZ;simp only [qo,List.drop_succ_cons];exact this
theorem pS {i:bN} {cs:List af} {off:Nat} {v:af} (U:yi i=true) (h:cs[off]? = some v):hO i cs off=some v:=by
 unfold hO yi at *;rw [TM h];simp only;split at U<;>simp_all
section
variable {J:ao→Prop} {P:Program} {Γ:cz} {N:Nat} {ops:Array Oper} {l:List Oper} {i:Nat} {rest:List Oper} {Q:b8→Env→ao→Prop} {env:Env} {s:ao} {o:Oper} {d:Nat}
theorem a7.Lh (aP:bQ P Γ) {t:TypeId} {x:Operand} {ee:bN} {off:Nat} {cs:List af} {v:af} (b5:o.op = .load t x) (aN:Γ.get? t=some ee) (ab:aL env x=some (.bA cs off)) (av:hO ee cs off=some v) :
  a7 P N o env s (fun x al=>x=v∧al=s) (fun _ _=>False):=
 a7.nn (by simp [gJ,b5]) fun ro B a w p aI=>Jr aP aI b5 aN ab av
theorem aa.Aw (aP:bQ P Γ) {t:TypeId} {x:Operand} {ee:bN} {off:Nat} {cs:List af} {v:af} (aw:guardOf ops env o=some true) (ax:o.dst=some d) (aW:t6 d N=true) (b5:o.op = .load t x) (aN:Γ.get? t=some ee) (ab:aL env x=some (.bA cs off)) (U:yi ee=true) (av:cs[off]? = some v)
  (h:aa P N ops rest Q ((d,v)::env) s):aa P N ops (o::rest) Q env s:=
 aa.op aw ax aW (a7.Lh aP b5 aN ab (pS U av)) (fun x al ⟨U,ae⟩=>by subst U;subst ae;exact h) (fun _ _ h=>h.elim)
theorem aJ.Aw (aP:bQ P Γ) {t:TypeId} {x:Operand} {ee:bN} {off:Nat} {cs:List af} {v:af} (aw:c9 l env o) (ax:o.dst=some d) (aW:t6 d N=true) (b5:o.op = .load t x) (aN:Γ.get? t=some ee) (ab:aL (b4 l env o) x=some (.bA cs off)) (U:yi ee=true) (av:cs[off]? = some v)
  (h:aJ J P Γ N l (i+1) rest Q ((d,v)::env) s):aJ J P Γ N l i (o::rest) Q env s:=
 aJ.calm aw ax aW (fun s _=>a7.Lh aP b5 aN ab (pS U av)) h
theorem aa.j7 {L R:a'} (aP:bQ P Γ) (I:Ok s L) {t T:TypeId} {x:Operand} {ee:bN} {b off:Nat} {cs:List af} {v:af} (aw:guardOf ops env o=some true) (ax:o.dst=some d) (aW:t6 d N=true) (b5:o.op = .load t x) (aN:Γ.get? t=some ee) (ab:aL env x=some (.ptr b off)) (au:bp L (.own b) (.box T cs) R) (U:yi ee=true) (av:cs[off]? = some v)
  (h:aa P N ops rest Q ((d,v)::env) (aT s L)):aa P N ops (o::rest) Q env (aT s L):=
 aa.eC aP I aw ax aW b5 aN ab au (pS U av) h
theorem aJ.j7 {L R:a'} (aP:bQ P Γ) (I:Ok s L) {t T:TypeId} {x:Operand} {ee:bN} {b off:Nat} {cs:List af} {v:af} (aw:c9 l env o) (ax:o.dst=some d) (aW:t6 d N=true) (b5:o.op = .load t x) (aN:Γ.get? t=some ee) (ab:aL (b4 l env o) x=some (.ptr b off)) (au:bp L (.own b) (.box T cs) R) (U:yi ee=true) (av:cs[off]? = some v)
  (h:aJ (fun al=>al=aT s L) P Γ N l (i+1) rest Q ((d,v)::env) (aT s L)):aJ (fun al=>al=aT s L) P Γ N l i (o::rest) Q env (aT s L):=
 aJ.eC aP I aw ax aW b5 aN ab au (pS U av) h
theorem aJ.l0 (aP:bQ P Γ) {t e:TypeId} {x y:Operand} {it aG:bN} {k:IntKind} {len off:Nat} {cs:List af} {z:Int} (j:Nat) (aw:c9 l env o) (ax:o.dst=some d) (aW:t6 d N=true) (ah:o.op = .indexAddr t x y) (aN:Γ.get? t=some it) (bs:it.bG = .arr len e) (bI:Γ.get? e=some aG) (ab:aL (b4 l env o) x=some (.bA cs off)) (ay:aL (b4 l env o) y=some (.int k z)) (eN:z=(j:Int)) (aK:j<len)
  (h:aJ J P Γ N l (i+1) rest Q ((d,.bA cs (off+j*aG.size))::env) s):aJ J P Γ N l i (o::rest) Q env s:=
 aJ.calm aw ax aW (fun s _=>a7.l0 aP ah aN bs bI ab ay eN aK) h
theorem aJ.arr (aP:bQ P Γ) {t e:TypeId} {x y:Operand} {it aG:bN} {k:IntKind} {len b off:Nat} {z:Int} (j:Nat) (aw:c9 l env o) (ax:o.dst=some d) (aW:t6 d N=true) (ah:o.op = .indexAddr t x y) (aN:Γ.get? t=some it) (bs:it.bG = .arr len e) (bI:Γ.get? e=some aG) (ab:aL (b4 l env o) x=some (.ptr b off)) (ay:aL (b4 l env o) y=some (.int k z)) (eN:z=(j:Int)) (aK:j<len)
  (h:aJ J P Γ N l (i+1) rest Q ((d,.ptr b (off+j*aG.size))::env) s):aJ J P Γ N l i (o::rest) Q env s:=
 aJ.calm aw ax aW (fun s _=>a7.arr aP ah aN bs bI ab ay eN aK) h
theorem aJ.j8 {L R:a'} (aP:bQ P Γ) (I:Ok s L) {t T:TypeId} {x y:Operand} {ee:bN} {b off:Nat} {cs us:List af} {v:af} (cs':List af) (aw:c9 l env o) (ax:o.dst=none) (l2:kE l.toArray i=true)
  (b5:o.op = .store t x y) (aN:Γ.get? t=some ee) (ab:aL (b4 l env o) x=some (.ptr b off)) (ay:aL (b4 l env o) y=some v)
  (av:cellsOf v=some us) (hu:ac' us.length ee.size=true) (U:us.all fa=true) (au:bp L (.own b) (.box T cs) R) (fB:off+us.length≤cs.length) (he:eU off us cs=cs')
  (h:Ok s ((.own b,.box T cs')::R)→Q .normal env (aT s ((.own b,.box T cs')::R))):aJ J P Γ N l i [o] Q env (aT s L):=by
 subst he;exact aJ.cS aP I aw ax l2 b5 aN ab ay av hu U au (by simpa [Nat.ble_eq] using fB) h
theorem aa.j8 {L R:a'} (aP:bQ P Γ) (I:Ok s L) {t T:TypeId} {x y:Operand} {ee:bN} {b off:Nat} {cs us:List af} {v:af} (cs':List af) (aw:guardOf ops env o=some true) (ax:o.dst=none)
  (b5:o.op = .store t x y) (aN:Γ.get? t=some ee) (ab:aL env x=some (.ptr b off)) (ay:aL env y=some v)
  (av:cellsOf v=some us) (hu:ac' us.length ee.size=true) (U:us.all fa=true) (au:bp L (.own b) (.box T cs) R) (fB:off+us.length≤cs.length) (he:eU off us cs=cs')
  (h:Ok s ((.own b,.box T cs')::R)→aa P N ops rest Q env (aT s ((.own b,.box T cs')::R))):aa P N ops (o::rest) Q env (aT s L):=by
 subst he;exact aa.cS aP I aw ax b5 aN ab ay av hu U au (by simpa [Nat.ble_eq] using fB) h
theorem pT {off:Nat} {v:af}:∀ {cs:List af},eU off [v] cs=cs.set off v:=by
  induction off with
  | zero=>intro cs;cases cs<;>rfl
  | succ n a6=>intro cs;cases cs with
    | nil=>rfl
    | cons x r=>exact congrArg (x :: ·) (a6 (cs:=r))
theorem aa.lY {f:FuncId} {fS:Array Operand} {c0:Array TypeId} {xs ys:List af} {v:af} (aw:guardOf ops env o=some true) (ax:o.dst=some d) (aW:t6 d N=true)
  (b5:o.op = .call { callee := .value (.func f),args:=fS,argTypes:=c0 }) (a8:fQ env fS.toList=some xs) (h:aR P f ys v) (aB:cR xs ys) (aD:aa P N ops rest Q ((d,v)::env) s):aa P N ops (o::rest) Q env s:=
 aa.dQ aw ax aW b5 a8 (aR.args aB h) aD
theorem aJ.lY {f:FuncId} {fS:Array Operand} {c0:Array TypeId} {xs ys:List af} {v:af} (aw:c9 l env o) (ax:o.dst=some d) (aW:t6 d N=true)
  (b5:o.op = .call { callee := .value (.func f),args:=fS,argTypes:=c0 }) (a8:fQ (b4 l env o) fS.toList=some xs) (aA:aR P f ys v) (aB:cR xs ys) (h:aJ J P Γ N l (i+1) rest Q ((d,v)::env) s):aJ J P Γ N l i (o::rest) Q env s:=
 aJ.dQ aw ax aW b5 a8 (aR.args aB aA) h
theorem ad.qP {L R:a'} (I:Ok s L) (b:Nat) {dI:dG} (au:bp L (.own b) dI R) (aP:bQ P Γ) (hm:P.follows .mixedOrders=true) {id:Nat} (dJ:rK l.toArray=true) (h:aJ (fun al=>al b=some dI) P Γ N l 0 l Q env (aT s L)):ad P N (.region id l.toArray true) Q env (aT s L):=
 ad.qC _ aP hm dJ (h dJ C (au.get I))
theorem aJ.rP (aP:bQ P Γ) {t T:TypeId} {x:Operand} {ee:bN} {b off:Nat} {cs:List af} {v:af} (aw:c9 l env o) (ax:o.dst=some d) (aW:t6 d N=true)
  (b5:o.op = .load t x) (aN:Γ.get? t=some ee) (ab:aL (b4 l env o) x=some (.ptr b off)) (av:hO ee cs off=some v)
  (h:aJ (fun al=>al b=some (.box T cs)) P Γ N l (i+1) rest Q ((d,v)::env) s):aJ (fun al=>al b=some (.box T cs)) P Γ N l i (o::rest) Q env s:=
 aJ.calm aw ax aW (fun s cD=>a7.um aP b5 aN ab cD av) h
theorem aJ.Ax {L R K:a'} {acv:eB→a'→Prop} {b:Nat} {dI:dG} {g:Operand} {fv:af} {fS:Array Operand} {c0:Array TypeId} {xs:List af} (aw:c9 l env o) (ax:o.dst=some d) (aW:t6 d N=true) (aF:eI l.toArray (2^i-1) (idxs 0 l)=[i])
  (b5:o.op = .call { callee := .value g,args:=fS,argTypes:=c0 }) (av:aL (b4 l env o) g=some fv) (a8:fQ (b4 l env o) fS.toList=some xs) (h:dt P fv xs K acv) (I:Ok s L) (au:aH L K R)
  (aK:∀ x aO,acv (.ret x) aO→∃ dx,bp (aO++R) (.own b) dI dx)
  (aD:∀ x aO,acv (.ret x) aO→Ok s (aO++R)→aJ (fun al=>al b=some dI) P Γ N l (i+1) rest Q ((d,x)::env) (aT s (aO++R))) (ab:∀ x aO,acv (.panic x) aO→Ok s (aO++R)→Q (.panic x) [] (aT s (aO++R))):aJ (fun al=>al b=some dI) P Γ N l i (o::rest) Q env (aT s L):=
 aJ.yg aw ax aW aF (a7.gM b5 av a8 h I au) (fun x al ⟨aO,U,ae,an⟩=>by subst U;obtain ⟨dx,hG⟩:=aK x aO an;exact hG.get ae) (fun x al ⟨aO,U,ae,an⟩=>by subst U;exact aD x aO an ae) (fun x al ⟨aO,U,ae,an⟩=>by subst U;exact ab x aO an ae)
theorem aJ.TN {L R K:a'} {acv:eB→a'→Prop} {g:Operand} {fv:af} {fS:Array Operand} {c0:Array TypeId} {xs:List af} (aw:c9 l env o) (ax:o.dst=some d) (aW:t6 d N=true) (aF:eI l.toArray (2^i-1) (idxs 0 l)=[i])
  (b5:o.op = .call { callee := .value g,args:=fS,argTypes:=c0 }) (av:aL (b4 l env o) g=some fv) (a8:fQ (b4 l env o) fS.toList=some xs) (h:dt P fv xs K acv) (I:Ok s L) (au:aH L K R)
  (aD:∀ x aO,acv (.ret x) aO→Ok s (aO++R)→aJ nz P Γ N l (i+1) rest Q ((d,x)::env) (aT s (aO++R))) (ab:∀ x aO,acv (.panic x) aO→Ok s (aO++R)→Q (.panic x) [] (aT s (aO++R))):aJ nz P Γ N l i (o::rest) Q env (aT s L):=
 aJ.yg aw ax aW aF (a7.gM b5 av a8 h I au) (fun _ _ _=>trivial) (fun x al ⟨aO,U,ae,an⟩=>by subst U;exact aD x aO an ae) (fun x al ⟨aO,U,ae,an⟩=>by subst U;exact ab x aO an ae)
end
theorem TO {w:World} {p:bT} {s:ao} (cd:dq w p s) {vs:List Value} {xs:List af} {sz cap:Nat} {e:TypeId} {cur:Array Value} (aF:bF w p vs xs)
    (au:∀ v∈vs,v.cells.size=sz) (oO:cur.size=cap*sz) (vQ:cur.toList.take (xs.length*sz)=flat vs) (kC:xs.length≤cap) (hm:xs.length≤9223372036854775807) :
    ∃ bk,s w.heap.size=none∧de w p (w.alloc (.cells cur e)) bk∧Kept s (s.set w.heap.size (.row e sz xs.length)) w p (w.alloc (.cells cur e)) bk ∧
      dq (w.alloc (.cells cur e)) bk (s.set w.heap.size (.row e sz xs.length))∧Rel (w.alloc (.cells cur e)) bk (.slice (some ⟨w.heap.size,0,none⟩) xs.length cap) (.aC sz xs (.own w.heap.size)):=by
  have az:s w.heap.size=none:=by
    cases h:s w.heap.size with
    | none=>rfl
    | some o'=>exact absurd (cd.obj _ _ h).lt ag
  let bk:bT:=fun b o=>p b o∨(b=w.heap.size∧o<xs.length*sz)
  have oP:(w.alloc (.cells cur e)).heap[w.heap.size]? = some (.cells cur e):=ue w _;have hold:∀ b,b<w.heap.size→(w.alloc (.cells cur e)).heap[b]? = w.heap[b]? := fun b aq=>mg w _ b aq
  have hle:de w p (w.alloc (.cells cur e)) bk:=de.of_heap C C C ba (fun _ _ h => .inl h) cd.lt hold;have hlen:=vP au;have hmul:xs.length*sz≤cap*sz:=ak3 _ kC;refine ⟨bk,az,hle,⟨fun b aq _=>hold b aq,fun b aq au=>by rw [ao.fA _ _ ag];exact au,fun b o aq _ aE=>by rcases aE with aE|⟨rfl,_⟩;exact aE;omega⟩,?_,?_⟩
  · have aw:dq (w.alloc (.cells cur e)) bk s:=cd.grow hle hold (fun b o aq aE=>by rcases aE with aE|⟨rfl,_⟩;exact aE;omega) (fun b o aE=>by
      rcases aE with aE|⟨rfl,_⟩
      · have:=cd.lt b o aE;simp;omega
      · simp)
    refine ⟨fun b o aq=>?_,aw.lt⟩;by_cases e':b=w.heap.size
    · subst e'
      rw [ao.gu] at aq;cases aq;refine ⟨cur,oP,by omega,⟨cap,oO⟩,fun o=>⟨fun aE=>?_,fun ah => .inr ⟨rfl,ah⟩⟩⟩;rcases aE with aE|⟨_,ah⟩
      · exact absurd (cd.lt _ _ aE) ag
      · exact ah
    · rw [ao.fA _ _ e'] at aq;exact aw.obj b o aq
  · refine .aC _ 0 _ _ _ vs _ _ ba rfl ?_ (aF.mono hle) au hm kC (fun h=>by cases h) (fun b aq=>?_)
    · intro i v av
      have aQ:i<xs.length*sz:=by
        have:=(ac3.1 av).1;rw [hlen,aF.length] at this;exact this
      refine ⟨.inr ⟨rfl,by omega⟩,?_⟩;rw [ae4,jJ oP];rw [← vQ,af',f9 aQ] at av;simpa using av
    · cases aq
      exact ⟨rfl,rfl,e,by simp only [World.kU,oP,oO]⟩
theorem Li {z:Value} (h:z.cells = #[z]) (n:Nat):(madeCells z.cells n).toList=t7 n z:=by
 refine List.ext_getElem? fun i=>?_
 unfold madeCells;rw [h];simp only [Array.toList_map,Array.toList_range,ad2,List.getElem?_replicate];by_cases aQ:i<n
 ·rw [List.getElem?_range aQ,f9 aQ]
  simp [Nat.mod_one]
 ·rw [List.getElem?_eq_none cE,d9 aQ];rfl
section
variable {P:Program} {Γ:cz} {N:Nat} {ops:Array Oper} {Q:b8→Env→ao→Prop} {env:Env} {s:ao} {l:List Oper} {o:Oper} {d:Nat} {L R:a'}
theorem Lj (aP:bQ P Γ) {t e:TypeId} {it aG:bN} (aN:Γ.get? t=some it) (bs:it.bG = .aC e) (bI:Γ.get? e=some aG) (nw pU:IntKind) (n c:Nat) (tv:n≤c) (aq:c*aG.bytes≤140737488355328) (er:c≤9223372036854775807) (w:World) :
  (Instr.makeSlice t (.int nw (n:Int)) (.int pU (c:Int))).run P w = .ok (.slice (some ⟨w.heap.size,0,none⟩) n c) (w.alloc (.cells (madeCells aG.zero.cells (c*aG.size)) e)):=by
 obtain ⟨info,d,g1,g2,g3,-⟩:=aP.parts aN;obtain ⟨jU,kA,cA,db,fe,eH,jV,js⟩:=aP.parts bI;have ax:d = .slice e:=by rw [bs] at g3;cases d<;>simp [ez] at g3;rw [g3]
 subst ax;have dO:(jU.bytes:Int)*(c:Int)≤281474976710656:=by
  rw [jV];have:((aG.bytes*c:Nat):Int)≤281474976710656:=by rw [Nat.mul_comm];omega
  rwa [Int.natCast_mul] at this
 have:=run_make (P:=P) w t e jU aG.zero g2 cA js nw pU (n:Int) (c:Int) ag ag dO ag;rw [ac0,ac0,eH] at this;exact this
theorem a7.uN (aP:bQ P Γ) (I:Ok s L) {t e:TypeId} {x y:Operand} {it aG:bN} {nw pU:IntKind} {z:af} (n:Nat) (ah:o.op = .makeSlice t x y) (aN:Γ.get? t=some it) (bs:it.bG = .aC e) (bI:Γ.get? e=some aG) (U:aG.size=1)
  (uO:aG.zero.oneCell'=true) (bO:hC aG.zero=some z) (ab:aL env x=some (.int nw (n:Int))) (ay:aL env y=some (.int pU (n:Int))) (aq:n*aG.bytes≤140737488355328) (er:n≤9223372036854775807) {X:af→ao→Prop} :
  a7 P N o env (aT s L) (fun r al=>∃ b,r=eu b n n∧al=aT s ((.own b,.box e (t7 n z))::L)∧Ok s ((.own b,.box e (t7 n z))::L)) X:=by
 refine a7.ky jf fun ro B a w p aI=>?_
 have gl:=aI.aL ab;have fl:=aI.aL ay;generalize eA:a.eval x=dX at gl;generalize ff:a.eval y=ga at fl;cases gl;cases fl;have cN:=Lj aP aN bs bI nw pU n n (i0 _) aq er w;have uj:=z8 uO;have Ay:=Li uj (n*aG.size);rw [U,ag7] at cN Ay
 obtain ⟨au,hle,aD,k0⟩:=rD aI.wf (.cells (madeCells aG.zero.cells n) e (0,0)) (.box e (t7 n z)) (fun w' iO av ft=>⟨_,iO,by
  rw [Ay];exact bF.replicate (qp bO) n,fun o aE=>absurd (aI.wf.lt _ _ aE) ag⟩)
 refine ⟨.slice (some ⟨w.heap.size,0,none⟩) n n,_,_,p,_,?_,hle,aD,k0,⟨w.heap.size,rfl,rfl,au,I⟩,.hB _⟩;unfold execOp;rw [ah];simp only [eA,ff];exact gV cN
theorem aa.uN (aP:bQ P Γ) (I:Ok s L) {t e:TypeId} {x y:Operand} {it aG:bN} {nw pU:IntKind} {z:af} (n:Nat) (aw:guardOf ops env o=some true) (ax:o.dst=some d) (aW:t6 d N=true) (ah:o.op = .makeSlice t x y) (aN:Γ.get? t=some it) (bs:it.bG = .aC e) (bI:Γ.get? e=some aG) (U:aG.size=1)
  (uO:aG.zero.oneCell'=true) (bO:hC aG.zero=some z) (ab:aL env x=some (.int nw (n:Int))) (ay:aL env y=some (.int pU (n:Int))) (aq:n*aG.bytes≤140737488355328) (er:n≤9223372036854775807)
  (h:∀ b,Ok s ((.own b,.box e (t7 n z))::L)→aa P N ops l Q ((d,eu b n n)::env) (aT s ((.own b,.box e (t7 n z))::L))):aa P N ops (o::l) Q env (aT s L):=by
 refine aa.op aw ax aW (a7.uN aP I n ah aN bs bI U uO bO ab ay aq er (X:=fun _ _=>False)) ?_ (fun _ _ h=>h.elim);rintro r al ⟨b,rfl,rfl,ae⟩;exact h b ae
theorem a7.Gq (aP:bQ P Γ) (I:Ok s L) {t e:TypeId} {x y:Operand} {it aG:bN} {nw pU:IntKind} {z:af} (n c:Nat) (ah:o.op = .makeSlice t x y) (aN:Γ.get? t=some it) (bs:it.bG = .aC e) (bI:Γ.get? e=some aG) (U:aG.size=1)
  (uO:aG.zero.oneCell'=true) (bO:hC aG.zero=some z) (ab:aL env x=some (.int nw (n:Int))) (ay:aL env y=some (.int pU (c:Int))) (tv:n≤c) (aq:c*aG.bytes≤140737488355328) (er:c≤9223372036854775807) {X:af→ao→Prop} :
  a7 P N o env (aT s L) (fun r al=>∃ b,r = .aC 1 (t7 n z) (.own b)∧al=aT s ((.own b,.row e 1 n)::L)∧Ok s ((.own b,.row e 1 n)::L)) X:=by
 refine a7.ky jf fun ro B a w p aI=>?_
 have gl:=aI.aL ab;have fl:=aI.aL ay;generalize eA:a.eval x=dX at gl;generalize ff:a.eval y=ga at fl;cases gl;cases fl;have cN:=Lj aP aN bs bI nw pU n c tv aq er w;have uj:=z8 uO;have Ay:=Li uj (c*aG.size);rw [U,ag7] at cN Ay
 obtain ⟨bk,ek,dj,dT,mO,s5⟩:=TO (e:=e) (sz:=1) (cap:=c) (cur:=madeCells aG.zero.cells c) aI.wf (bF.replicate (qp (w:=w) (p:=p) bO) n) (fun v av=>by
  obtain ⟨_,rfl⟩:=ar1.1 av
  rw [uj];rfl) (by rw [size_madeCells,ag7]) (by
  rw [Ay,ad9,ag7,List.take_replicate,ti (fun v av=>by obtain ⟨_,rfl⟩:=ar1.1 av;exact uO),ak2 tv]) (by rw [ad9];exact tv) uE
 rw [ad9] at dT mO s5;refine ⟨.slice (some ⟨w.heap.size,0,none⟩) n c,_,_,bk,_,?_,dj,dT,mO,⟨w.heap.size,rfl,rfl,ek,I⟩,s5⟩;unfold execOp;rw [ah];simp only [eA,ff];exact gV cN
theorem aa.Gq (aP:bQ P Γ) (I:Ok s L) {t e:TypeId} {x y:Operand} {it aG:bN} {nw pU:IntKind} {z:af} (n c:Nat) (aw:guardOf ops env o=some true) (ax:o.dst=some d) (aW:t6 d N=true) (ah:o.op = .makeSlice t x y) (aN:Γ.get? t=some it) (bs:it.bG = .aC e) (bI:Γ.get? e=some aG) (U:aG.size=1)
  (uO:aG.zero.oneCell'=true) (bO:hC aG.zero=some z) (ab:aL env x=some (.int nw (n:Int))) (ay:aL env y=some (.int pU (c:Int))) (tv:n≤c) (aq:c*aG.bytes≤140737488355328) (er:c≤9223372036854775807)
  (h:∀ b,Ok s ((.own b,.row e 1 n)::L)→aa P N ops l Q ((d,.aC 1 (t7 n z) (.own b))::env) (aT s ((.own b,.row e 1 n)::L))):aa P N ops (o::l) Q env (aT s L):=by
 refine aa.op aw ax aW (a7.Gq aP I n c ah aN bs bI U uO bO ab ay tv aq er (X:=fun _ _=>False)) ?_ (fun _ _ h=>h.elim);rintro r al ⟨b,rfl,rfl,ae⟩;exact h b ae
end
def Lk (P:Program) {α:Type} (di a2:α→af) (n9:α→Prop) (l:Nat) (Go:List α→a'→Prop) (fD:a'→Prop) (fJ:af→a'→Prop):Prop:=
 ∀ x rem K,Go (x::rem) K→dt P (lR l) [di x,a2 x] K (fun o aO=>(o = .ret (.bool true)∧n9 x∧Go rem aO)∨(o = .ret (.bool false)∧fD aO)∨∃ v,o = .panic v∧fJ v aO)
def Gr (P:Program) (f:FuncId) (first cap:List af) (mZ:a') {α:Type} (di a2:α→af) (n9:α→Prop) (xs:List α):Prop:=
 ∀ (l:Nat) (Go:List α→a'→Prop) (fD:a'→Prop) (fJ:af→a'→Prop),Lk P di a2 n9 l Go fD fJ→∀ K,Go xs K →
  bE P f (first++([lR l]++cap)) (mZ++K) (fun o aO=>(o = .ret (.cu [])∧(Go [] aO∨fD aO))∨∃ v,o = .panic v∧fJ v aO)
section
variable {P:Program} {N:Nat} {Q:b8→Env→ao→Prop} {env:Env} {s:ao} {L R:a'}
theorem ad.Ll {α:Type} {di a2:α→af} {n9:α→Prop} {xs:List α} {t u:Tmp} {g:Operand} {hf body:Code} {f:FuncId} {first cap:List af} {mZ:a'} (I:Ok s L) (aw:aL env g=some (.func f first cap)) (aW:t<N) (eQ:u<N)
  (n6:Gr P f first cap mZ di a2 n9 xs) (au:aH L mZ R) (acW:List α→a'→Prop) (J:Code→a'→Prop) (tm:af→a'→Prop) (br:acW xs R)
  (sM:∀ s x rem K,acW (x::rem) K→Ok s K→ad P N hf (b8.andThen (ad P N body (CE (At s (fun K=>n9 x∧acW rem K)) (fun j=>At s (J j)) (fun v=>At s (tm v)))) (fun _ _ _=>False)) ((u,a2 x)::(t,di x)::env) (aT s K))
  (az:∀ K,acW [] K→Ok s K→Q .normal env (aT s K))
  (aK:∀ j K,J j K→Ok s K→ad P N j Q env (aT s K))
  (ab:∀ v K,tm v K→Ok s K→Q (.panic v) env (aT s K)):ad P N (.rangeFunc g #[t,u] hf body) Q env (aT s L):=by
 refine ad.J4 aw (by intro bH cZ;simp at cZ;rcases cZ with rfl|rfl;exact aW;exact eQ) fun l r aB FV=>?_
 have FW:Ok s ((.own l,.loop r env)::L):=⟨aB,I⟩;have oY:Lk P di a2 n9 l (fun rem K=>∃ aO,K=(.own l,.loop r env)::aO∧acW rem aO) (fun K=>∃ j aO,K=(.own l,.loop (qE r j) env)::aO∧J j aO) (fun v K=>∃ aO,K=(.own l,.loop (busy r) env)::aO∧tm v aO):=by
  rintro x rem _ ⟨K,rfl,ak⟩ al Ab;refine (FV [di x,a2 x] _ (At al (fun K=>n9 x∧acW rem K)) (fun j=>At al (J j)) (fun v=>At al (tm v)) (ao.gu _ _ _) C ?_).less ?_
  ·have:=ao.zy (aT al K) l (.loop r env) Ab.1
   show ad P N hf _ _ (((aT al K).set l (.loop r env)).del l);rw [this];exact sM al x rem K ak Ab.2
  ·have key:∀ {L K R:a'} {o:dG},aT al L l=none→Ok al L→aH L K R→ao.Sub (aT al ((.own l,o)::K)) ((aT al L).set l o)∧Ok al ((.own l,o)::K):=by
    intro L K R o U ae an;exact (aH.cons bp.here an).sub (L:=(.own l,o)::L) ⟨U,ae⟩
   rintro o eK (⟨rfl,dN,U,rfl,L,aO,R,rfl,ae,bd,an⟩|⟨rfl,j,dN,U,rfl,L,aO,R,rfl,ae,bd,an⟩|⟨v,dN,rfl,U,rfl,L,aO,R,rfl,ae,bd,an⟩)
   ·obtain ⟨cA,db⟩:=key U ae bd (o := .loop r env)
    exact ⟨_,cA,(.own l,.loop r env)::aO,rfl,db,.inl ⟨rfl,an.1,aO,rfl,an.2⟩⟩
   ·obtain ⟨cA,db⟩:=key U ae bd (o := .loop (qE r j) env)
    exact ⟨_,cA,(.own l,.loop (qE r j) env)::aO,rfl,db,.inr (.inl ⟨rfl,j,aO,rfl,an⟩)⟩
   ·obtain ⟨cA,db⟩:=key U ae bd (o := .loop (busy r) env)
    exact ⟨_,cA,(.own l,.loop (busy r) env)::aO,rfl,db,.inr (.inr ⟨v,rfl,aO,rfl,an⟩)⟩
 have c1:=(n6 l _ _ _ oY _ ⟨R,rfl,br⟩).at FW ((au.there (e:=(.own l,.loop r env))).app (aH.du _));refine c1.mono ?_;rintro o eK ⟨M,rfl,iR,aO,rfl,h⟩;rw [d7] at iR ⊢;rcases h with ⟨rfl,⟨mu,rfl,h⟩|⟨j,mu,rfl,h⟩⟩|⟨v,rfl,mu,rfl,h⟩
 ·exact .inl ⟨aT s mu,iR.1,rfl,az mu h iR.2⟩
 ·exact .inr ⟨j,aT s mu,iR.1,rfl,aK j mu h iR.2⟩
 ·exact ⟨aT s mu,_,iR.1,rfl,ab v mu h iR.2⟩
end
section
variable {J:ao→Prop} {P:Program} {Γ:cz} {N:Nat} {l:List Oper} {i:Nat} {rest:List Oper} {Q:b8→Env→ao→Prop} {env:Env} {s:ao} {o:Oper} {d:Nat}
theorem aJ.shl {t yt:TypeId} {x y:Operand} {k k':IntKind} {a b:Int} (r:Int) (aw:c9 l env o) (ax:o.dst=some d) (aW:t6 d N=true) (ah:o.op = .binOp .shl t x y yt) (ab:aL (b4 l env o) x=some (.int k a)) (ay:aL (b4 l env o) y=some (.int k' b)) (aq:0≤b) (aF:k.wrap (a*2^(min b.toNat k.bits))=r)
  (h:aJ J P Γ N l (i+1) rest Q ((d,.int k r)::env) s):aJ J P Γ N l i (o::rest) Q env s:=
 aJ.calm aw ax aW (fun _ _=>a7.shl ah ab ay aq aF) h
theorem aJ.shr {t yt:TypeId} {x y:Operand} {k k':IntKind} {a b:Int} (r:Int) (aw:c9 l env o) (ax:o.dst=some d) (aW:t6 d N=true) (ah:o.op = .binOp .shr t x y yt) (ab:aL (b4 l env o) x=some (.int k a)) (ay:aL (b4 l env o) y=some (.int k' b)) (aq:0≤b) (aF:a.fdiv (2^(min b.toNat k.bits))=r)
  (h:aJ J P Γ N l (i+1) rest Q ((d,.int k r)::env) s):aJ J P Γ N l i (o::rest) Q env s:=
 aJ.calm aw ax aW (fun _ _=>a7.shr ah ab ay aq aF) h
theorem aJ.bits {op:BinOp} {t yt:TypeId} {x y:Operand} {k:IntKind} {a b:Int} (r:Int) (aw:c9 l env o) (ax:o.dst=some d) (aW:t6 d N=true) (ah:o.op = .binOp op t x y yt) (ab:aL (b4 l env o) x=some (.int k a)) (ay:aL (b4 l env o) y=some (.int k b)) (aF:bitsOf op k a b=some r)
  (h:aJ J P Γ N l (i+1) rest Q ((d,.int k r)::env) s):aJ J P Γ N l i (o::rest) Q env s:=
 aJ.calm aw ax aW (fun _ _=>a7.bits ah ab ay aF) h
end
section
variable {J:ao→Prop} {P:Program} {Γ:cz} {N:Nat} {l:List Oper} {Q:b8→Env→ao→Prop} {env:Env} {s:ao} {o:Oper} {d m:Nat} {L R:a'}
theorem bo.mW (i:Nat) (aP:bQ P Γ) (I:Ok s L) {t dY e0:TypeId} {x y z:Operand} {it gL:bN} {b:Nat} {es dy:List (af×af)} {k v:af} (aF:eI l.toArray m (idxs 0 l)=[i]) (ah:l.toArray[i]? = some o) (ax:o.dst=none)
  (aw:c9 l env o) (b5:o.op = .mapUpdate t x y z∨o.op = .insert t x y z) (aN:Γ.get? t=some it) (bs:it.bG = .map dY e0) (h0:Γ.get? dY=some gL) (ab:aL (b4 l env o) x=some (.map b)) (ay:aL (b4 l env o) y=some k) (bO:aL (b4 l env o) z=some v)
  (au:bp L (.own b) (.map es) R) (aZ:kf gL.bG k=true) (aE:lO es k v=some dy)
  (aK:Ok s ((.own b,.map dy)::R)→J (aT s ((.own b,.map dy)::R))∨kE l.toArray i=true)
  (h:Ok s ((.own b,.map dy)::R)→bo J P Γ N l.toArray Q (bX (m|||2^i)) env (aT s ((.own b,.map dy)::R))):bo J P Γ N l.toArray Q (bX m) env (aT s L):=
 bo.x1 aF ah ax aw (a7.mW aP I b5 aN bs h0 ab ay bO au aZ aE (X:=fun _ _=>False)) (fun x al ⟨U,ae⟩=>by subst U;exact aK ae) (fun x al ⟨U,ae⟩=>by subst U;exact h ae) (fun _ _ h=>h.elim)
end
section
variable {P:Program} {b:Frame} {a:Act} {k:List Item} {cs:List Frame} {w:World}
theorem Az {c:Code}:step P (lone (b.atR a (.code (.scope c)::k)) cs w) = .next (lone (b.atR a (.code c :: .inScope c::k)) cs w):=
 step_lone_go (by simp [stepG,stepG.exec,Frame.atR])
theorem TP {c:Code}:step P (lone (b.atR a (.inScope c::k)) cs w) = .next (lone (b.atR a k) cs w):=
 step_lone_go (by simp [stepG,stepG.exec,Frame.atR])
theorem TQ {Q:hb→Act→World→Prop} {c:Code} (h:jT P b c Q a w):jT P b (.scope c) Q a w:=by
 intro k cs;obtain ⟨e,iM,w₁,bq,f'⟩:=h (.inScope c::k) cs;cases e with
 | normal=>exact ⟨.normal,iM,w₁,bq,.head Az (Steps.trans f' (.one TP))⟩
 | exit id=>
  refine ⟨.exit id,iM,w₁,bq,fun k' aD => .head Az (f'.1 k' (by simpa [exitTo] using aD)),fun aD=>?_⟩;obtain ⟨k₁,U,ae⟩:=f'.2 (by simpa [exitTo] using aD);exact ⟨k₁,U,.head Az ae⟩
 | ret=>obtain ⟨k₁,au⟩:=f';exact ⟨.ret,iM,w₁,bq,k₁,.head Az au⟩
 | panic dF=>obtain ⟨k₁,au⟩:=f';exact ⟨.panic dF,iM,w₁,bq,k₁,.head Az au⟩
theorem TR {Q:hb→Act→World→Prop} {l:Nat} (h:Q .normal a w):jT P b (.label l) Q a w:=
 fun _ _=>⟨.normal,a,w,h,.one stepR_label⟩
end
section
variable {P:Program} {N:Nat} {Q:b8→Env→ao→Prop} {env:Env} {s:ao}
theorem ad.scope {c:Code} (h:ad P N c Q env s):ad P N (.scope c) Q env s:=fun b B a w p eZ aI=>TQ (h b B a w p eZ aI)
theorem ad.label {l:Nat} (h:Q .normal env s):ad P N (.label l) Q env s:=fun _ _ _ _ _ _ aI=>TR (.here .normal h aI)
end
end Go.cW
namespace Go.Proofs.YtnafpeohfbglmaaGreat
open Go.cW Go.dv
def fM (g:List b7):af := .aC 4 (g.map eP) .bc
def mz:Option Int→List Int→Bool
 | _,[]=>true
 | none,x::r=>decide (x≥0)&&mz (some x) r
 | some p,x::r=>decide (x≥0)&&(decide (p<x)&&mz (some x) r)
theorem Lm:∀ (r:List Int) (x:Int),qL (x::r)=(decide (x≥0)&&mz (some x) r)
  | [],x=>by rw [qL,mz,Bool.and_true]
  | y::r,x=>by
    rw [qL,mz,Lm r y];cases decide (x<y)<;>cases decide (y≥0)<;>simp
theorem Ln (l:List Int):qL l=mz none l:=by
 cases l with
 | nil=>rfl
 | cons x r=>rw [Lm,mz]
theorem kn {len i:Nat} {x:b7} (h:x.atom ≠ -1):iq len i x=true↔0≤x.atom∧x.atom<7∧x.no>i∧x.no<len∧x.yes>i∧x.yes<len∧x.ms.length=0:=by
 unfold iq;rw [d9 h];simp
theorem nF {len i:Nat} {x:b7} (h:x.atom = -1):iq len i x=true↔x.no=0∧x.yes=0∧x.ms.length≤16∧qL x.ms=true:=by
 unfold iq;rw [f9 h];simp
theorem Gs (g:List b7) (aw:g.length<bu):aR d0 68 [fM g] (.bool (hI g)):=by
 have aq:=bC;refine aR.bj ai Tryz.func68 C C fun s I=>?_
 unfold fM;have dE:hI g=hI g:=rfl
 conv at dE=>rhs;unfold hI
 refine dL ?_;by_cases g1:g.length=0
 ·refine aa.ds 10 C (by simp [g1]) ?_
  rw [show decide (1≤g.length)=false by simp [g1],f5] at dE;rw [dE];refine ew ?_;exact bm I
 refine aa.c2 10 C (by simp;intro e;exact g1 (by rw [e];rfl)) ?_;rw [show decide (1≤g.length)=true by simp;omega,f0] at dE;refine fI ?_;refine ad.cond C (fun g2=>?_) (fun g2=>?_)
 ·rw [show decide (g.length≤300)=false by simp at g2 ⊢;omega,f5] at dE
  rw [dE];refine gH ?_;exact bm I
 have g2:g.length≤300:=by simp at g2;omega
 rw [i6 g2,f0] at dE;rw [dE];refine jh ?_;refine ad.b0 [0,15,16] C I (σ:=Nat) (fun j=>[(17,.int .i64 (j:Int))]) (fun _=>[]) (fun j=>j≤g.length∧oZ g.length 0 g=oZ g.length j (g.drop j)) (fun j=>g.length-j) 0 ⟨g7 _,rfl⟩ (ck C) aY ?_;rintro j ⟨aK,ak⟩ I
 try simp only at aK ak I ⊢
 refine b2 ?_;refine ad.cond C (fun ar=>?_) (fun aV=>?_);rotate_left
 ·have aV:j=g.length:=by simp at aV;omega
  rw [ef ag,oZ] at ak;rw [ak];refine dB ?_;exact bm I
 have ar:j<g.length:=by simpa using ar
 obtain ⟨x,ab,bL⟩:=bV (f:=eP) ar;rw [drop_cons ab,oZ] at ak;unfold eP gY bg at bL
 repeat (first|(refine CR I ?_;clear I;intro I)|refine aa.d' ai I rfl rfl rfl rfl rfl rfl rfl (fun cy I=>?_))
 refine ad.cond C (fun a8=>?_) (fun a8=>?_)
 ·have a8:x.atom ≠ -1:=by simpa using a8
  refine cG I ?_;intro I;by_cases U:x.atom<0
  ·refine aa.ds 28 C (i6 U) ?_
   refine e5 ?_;rw [ak,show iq g.length j x=false from ad0.2 (fun h=>by have:=(kn a8).1 h;omega),f5];skip;exact bm I
  refine aa.c2 28 C (t8 U) ?_;refine cG I ?_;intro I;by_cases ae:x.atom≥7
  ·refine aa.ds 33 C (i6 ae) ?_
   refine e5 ?_;rw [ak,show iq g.length j x=false from ad0.2 (fun h=>by have:=(kn a8).1 h;omega),f5];skip;exact bm I
  refine aa.c2 33 C (t8 ae) ?_;refine cG I ?_;intro I;by_cases an:(if x.yes<x.no then x.yes else x.no)≤(j:Int)
  ·refine aa.ds 42 C (i6 an) ?_
   refine e5 ?_;rw [ak,show iq g.length j x=false from ad0.2 (fun h=>by have:=(kn a8).1 h;omega),f5];skip;exact bm I
  refine aa.c2 42 C (t8 an) ?_;refine cG I ?_;intro I;by_cases bd:(if x.yes>x.no then x.yes else x.no)≥(g.length:Int)
  ·refine aa.ds 52 C cE ?_
   refine e5 ?_;rw [ak,show iq g.length j x=false from ad0.2 (fun h=>by have:=(kn a8).1 h;omega),f5];skip;exact bm I
  refine aa.c2 52 C cE ?_;refine cG I ?_;intro I;refine ad.cond C (fun bD=>?_) (fun bD=>?_)
  ·have bD:x.ms.length≠0:=by simp at bD;omega
   rw [ak,show iq g.length j x=false from ad0.2 (fun h=>by have:=(kn a8).1 h;omega),f5];refine jg ?_;exact bm I
  have bD:x.ms.length=0:=by simp at bD;rw [bD];rfl
  rw [(kn a8).2 ag,f0] at ak;refine bB ?_;exact bn.mk (j+1) I ⟨ar,ak⟩ b' aY tg
 have a8:x.atom = -1:=by simpa using a8
 refine cG I ?_;intro I;by_cases U:x.no=0;rotate_left
 ·refine aa.ds 61 C th ?_
  refine e5 ?_;rw [ak,show iq g.length j x=false from ad0.2 (fun h=>by have:=(nF a8).1 h;omega),f5];skip;exact bm I
 refine aa.c2 61 C th ?_;refine cG I ?_;intro I;by_cases ae:x.yes=0;rotate_left
 ·refine aa.ds 66 C qg ?_
  refine e5 ?_;rw [ak,show iq g.length j x=false from ad0.2 (fun h=>by have:=(nF a8).1 h;omega),f5];skip;exact bm I
 refine aa.c2 66 C qg ?_;refine cG I ?_;intro I;refine ad.cond C (fun an=>?_) (fun an=>?_)
 ·rw [ak,show iq g.length j x=false from ad0.2 (fun h=>by have:=(nF a8).1 h;simp at an;omega),f5]
  refine jg ?_;exact bm I
 have an:x.ms.length≤16:=by simp at an;omega
 refine cG I ?_;intro I;refine ad.b0 [0,15,16,17,4,73,74] C I (σ:=Nat) (fun k=>[(75,.int .i64 (k:Int))]) (fun _=>[(.own cy,.box 69 (gY x))]) (fun k=>k≤x.ms.length∧qL x.ms=mz (if k=0 then none else x.ms[k-1]?) (x.ms.drop k)) (fun k=>x.ms.length-k) 0 ⟨g7 _,Ln _⟩ (ck C) (by simp only [gY];exact aY) ?_;rintro k ⟨aD,bh⟩ I
 try simp only [gY,bg] at aD bh I ⊢
 refine b2 ?_;refine ad.cond C (fun cC=>?_) (fun dm=>?_);rotate_left
 ·have dm:k=x.ms.length:=by simp at dm;omega
  rw [ef ag,mz] at bh;rw [(nF a8).2 ⟨U,ae,an,bh⟩,f0] at ak;refine bB ?_;exact bn.mk (j+1) I ⟨ar,ak⟩ b' aY tg
 have cC:k<x.ms.length:=by simpa using cC
 obtain ⟨y,ay,c'⟩:=bV (f:=bb) cC;rw [drop_cons ay] at bh;unfold bb at c';refine dC ?_;by_cases bd:y<0
 ·refine aa.ds 82 C (i6 bd) ?_
  have bh:qL x.ms=false:=by
   rw [bh];cases (if k=0 then none else x.ms[k-1]?)<;>rw [mz,show decide (y≥0)=false by simp;omega,f5]
  rw [ak,show iq g.length j x=false from ad0.2 (fun h=>by have:=((nF a8).1 h).2.2.2;rw [bh] at this;cases this),f5];refine e5 ?_;exact bm I
 refine aa.c2 82 C (t8 bd) ?_;have nm:decide (y≥0)=true:=by simp;omega
 cases k with
 | zero=>
  rw [f9 C,mz,nm,f0] at bh;refine bB ?_;exact bn.mk 1 I ⟨cC,by rw [d9 ag];simpa [ay] using bh⟩ (by repeat (first|exact trivial|refine ⟨⟨_,rfl,aM⟩,?_⟩|refine ⟨⟨_,rfl,aS.of_eq CU⟩,?_⟩)) aY (by show x.ms.length-1<x.ms.length-0;omega)
 | succ k=>
 rw [d9 ag,Nat.add_sub_cancel] at bh;obtain ⟨z,bO,qQ⟩:=bV (f:=bb) (show k<x.ms.length by omega);rw [bO,mz,nm,f0] at bh;unfold bb at qQ;refine dS ?_;refine aa.ds 85 C ba ?_;refine cG I ?_;intro I;refine aa.idx ai k C C C C C C C C C C (by rw [eo ag ag];push_cast;omega) qQ C ?_;refine fI ?_;refine ad.cond C (fun bD=>?_) (fun bD=>?_)
 ·rw [show decide (z<y)=false by simp at bD ⊢;omega,f5] at bh
  rw [ak,show iq g.length j x=false from ad0.2 (fun h=>by have:=((nF a8).1 h).2.2.2;rw [bh] at this;cases this),f5];refine jg ?_;exact bm I
 rw [show decide (z<y)=true by simp at bD ⊢;omega,f0] at bh;refine fR ?_;exact bn.mk (k+2) I ⟨cC,by rw [d9 ag];simpa [ay] using bh⟩ (by repeat (first|exact trivial|refine ⟨⟨_,rfl,aM⟩,?_⟩|refine ⟨⟨_,rfl,aS.of_eq z6⟩,?_⟩)) aY (by show x.ms.length-(k+2)<x.ms.length-(k+1);omega)
end Go.Proofs.YtnafpeohfbglmaaGreat
namespace Go.cW
section
variable {P:Program} {Γ:cz} {N:Nat} {ops:Array Oper} {Q:b8→Env→ao→Prop} {env:Env} {s:ao} {l:List Oper} {o:Oper} {d:Nat} {L R:a'}
theorem Lo (aP:bQ P Γ) {w:World} {p:bT} {S:ao} (cd:dq w p S) {t bH e ty:TypeId} {it cw aG:bN} {bU:Nat} {olds:List Value} {xs ys:List af} {dk:bM} {base:Option Addr} {n cap:Nat} {qI:Value}
  (aN:Γ.get? t=some it) (bs:it.bG = .aC e) (cZ:Γ.get? bH=some cw) (dr:∀ k,cw.bG ≠ .int k) (bI:Γ.get? e=some aG) (U:aG.size=1) (dV:ac' aG.zero.cells.size aG.size=true)
  (aF:bF w p olds xs) (az:n=xs.length) (pA:(Builtin.firstCells 1 n (.slice base n cap)).run P w.drew = .ok olds.toArray w.drew) (ay:Rel w p qI (.aC bU ys dk)) (c8:bU=1) (dP:ys.all fa=true)
  (ar:cap<n+ys.length) (aq:(n+ys.length)*aG.bytes≤140737488355328) (er:n+ys.length≤9223372036854775807) :
  ∃ aX cf cs' w',(Builtin.append_ #[t,bH] ty #[.slice base n cap,qI]).run P w = .ok (.slice (some ⟨aX,0,none⟩) (n+ys.length) cf) w'∧S aX=none∧de w p w' p∧Kept S (S.set aX (.box e cs')) w p w' p∧dq w' p (S.set aX (.box e cs')) ∧
   cs'.length=cf∧n+ys.length≤cf∧cs'.take (n+ys.length)=xs++ys:=by
 obtain ⟨info,d,g1,g2,g3,-⟩:=aP.parts aN;obtain ⟨mK,c6,ek,dj,dT,-⟩:=aP.parts cZ;obtain ⟨jU,kA,cA,db,fe,eH,jV,js⟩:=aP.parts bI;have ax:d = .slice e:=by rw [bs] at g3;cases d<;>simp [ez] at g3;rw [g3]
 subst ax;have cm:∀ k,c6 ≠ .int k:=fun k e'=>by subst e';exact dr k dT.symm
 obtain ⟨us,il,pB,jW,ki,sY,sZ,s0⟩:=qu ay (.inr c8);have mQ:=il.length;subst c8;have tj:flat us=us:=ti (qs il dP);have fB:=growslice_fits (need:=n+ys.length) (old:=cap) (bytes:=aG.bytes) ar aq;have cN:=zC (ty:=ty) w g2 dj cm cA js (base:=base) (sLen:=n) (sCap:=cap) (m:=ys.length) (olds:=olds) (news:=us) (jW P)
  (by rw [eH,U];exact pA) (by rw [eH,U];(conv=>rhs;rw [← tj]);exact ki P w.drew (fun _ _ _=>rfl)) ar ag (by rw [jV];exact fB)
 have ns:n+ys.length≤grownCap w (n+ys.length) cap e:=by simp [grownCap,Question.cut]
 have gh:olds.length=n:=by rw [aF.length,az]
 have oM:=ac1 dV;generalize sX:(Builtin.zeroCells aG.zero.cells (grownCap w (n+ys.length) cap e-(n+ys.length))).toList=a1 at cN;have nt:a1.length=grownCap w (n+ys.length) cap e-(n+ys.length):=by
  rw [← sX,ac7];simp [Builtin.zeroCells,oM,U]
 generalize grownCap w (n+ys.length) cap e=G at cN ns nt;have wA:=xP cd
 obtain ⟨au,hle,aD,k0⟩:=rD wA (.cells (olds++us++a1).toArray e (0,0)) (.box e (xs++ys++a1.map fun _ => .any)) (fun w' iO av ft=>⟨_,iO,by
  refine bF.append (bF.append (ft _ _ (show bF w.drew p olds xs from aF.mono kX)) (ft _ _ (il.mono kX))) (bF.z7 a1),fun o aE=>absurd (cd.lt _ _ aE) (by show ¬ w.heap.size<w.heap.size;omega)⟩)
 rw [show w.drew.heap.size=w.heap.size from rfl] at au aD k0;refine ⟨w.heap.size,G,xs++ys++a1.map (fun _=>af.any),_,cN,au,kX.trans hle,(vD (w:=w) (p:=p)).trans (kX (w:=w) (p:=p)).size aD,k0,?_,ns,?_⟩
 ·simp only [f8,f6,nt];omega
 ·rw [ag4 cE,af0 cE]
theorem a7.Gt (aP:bQ P Γ) (I:Ok s L) {t bH e:TypeId} {x y:Operand} {it cw aG:bN} {dZ bU:Nat} {ys:List af} {dk:bM}
  (ah:o.op = .call { callee := .builtin .append,args := #[x,y],argTypes := #[t,bH] }) (aN:Γ.get? t=some it) (bs:it.bG = .aC e) (cZ:Γ.get? bH=some cw) (dr:∀ k,cw.bG ≠ .int k)
  (bI:Γ.get? e=some aG) (U:aG.size=1) (dV:ac' aG.zero.cells.size aG.size=true) (ab:aL env x=some (.aC dZ [] .nil)) (ay:aL env y=some (.aC bU ys dk)) (c8:bU=1) (dP:ys.all fa=true) (cO:1≤ys.length) (aq:ys.length*aG.bytes≤140737488355328) (er:ys.length≤9223372036854775807)
  {X:af→ao→Prop}:a7 P N o env (aT s L) (fun r al=>Grown s L e ys.length ys r al) X:=by
 refine a7.ky jf fun ro B a w p aI=>?_
 have gl:=aI.aL ab;have fl:=aI.aL ay;have eM:=fun val w'=>uF (P:=P) (a:=a) (val:=val) (w:=w) (w':=w') ah
 generalize eA:a.eval x=dX at gl eM;generalize ff:a.eval y=ga at fl eM;have tk:dX = .slice none 0 0:=by
  cases gl with
  | hY=>rfl
  | iA a _ _ h=>rcases h with h|h<;>cases h
  | aC g off n cap _ vs _ _ az=>exact absurd C az
 subst tk
 obtain ⟨aX,cf,cs',w',fs,gD,hs,jc,mh,mi,mX,mY⟩:=Lo (ty:=o.type) aP aI.wf (base:=none) (n:=0) (cap:=0) (olds:=[]) (xs:=[]) aN bs cZ dr bI U dV .nil rfl (by
  have:=run_firstCells_none (P:=P) w.drew 1 0 0 0
  simpa using this) fl c8 dP ag (by simpa using aq) ag
 rw [ae4] at fs mX mY;exact ⟨_,w',_,p,_,eM _ _ fs,hs,jc,mh,⟨aX,cf,cs',rfl,rfl,⟨gD,I⟩,mi,mX,by simpa using mY⟩,.hB _⟩
theorem a7.Gu (aP:bQ P Γ) (I:Ok s L) {t bH e:TypeId} {x y:Operand} {it cw aG:bN} {b n cap bU:Nat} {cs ys:List af} {dk:bM}
    (ah:o.op = .call { callee := .builtin .append,args := #[x,y],argTypes := #[t,bH] }) (aN:Γ.get? t=some it) (bs:it.bG = .aC e) (cZ:Γ.get? bH=some cw) (dr:∀ k,cw.bG ≠ .int k)
    (bI:Γ.get? e=some aG) (U:aG.size=1) (dV:ac' aG.zero.cells.size aG.size=true) (ab:aL env x=some (eu b n cap)) (au:bp L (.own b) (.box e cs) R) (ct:cs.length=cap) (az:n≤cap) (iC:(cs.take n).all fa=true)
    (ay:aL env y=some (.aC bU ys dk)) (c8:bU=1) (dP:ys.all fa=true) (aq:(n+ys.length)*aG.bytes≤140737488355328) (er:n+ys.length≤9223372036854775807)
    {X:af→ao→Prop}:a7 P N o env (aT s L) (fun r al=>Grown s R e (n+ys.length) (cs.take n++ys) r al) X:=by
  obtain ⟨cb,b1,eV⟩:=au.perm I;refine a7.ky jf fun ro B a w p aI=>?_
  have gl:=aI.aL ab;have fl:=aI.aL ay;have eM:=fun val w'=>uF (P:=P) (a:=a) (val:=val) (w:=w) (w':=w') ah
  generalize eA:a.eval x=dX at gl eM;generalize ff:a.eval y=ga at fl eM;cases gl;obtain ⟨vs,c7,dh,e3⟩:=aI.wf.obj _ _ (au.get I);have ft:vs.toList.length=cap:=by rw [dh.length,ct]
  have hH:=dh.take n;have wB:=qs hH iC;have pD:∀ w':World,(∀ j,w'.cell? ⟨b,j,none⟩=w.cell? ⟨b,j,none⟩)→(Builtin.firstCells 1 n (.slice (some ⟨b,0,none⟩) n cap)).run P w' = .ok (vs.toList.take n).toArray w':=by
    intro w' iO;refine run_firstCells_some (P:=P) w' 1 n ⟨b,0,none⟩ n cap (vs.toList.take n) (by rw [ac8,ft];omega) (fun j u hu=>?_);rw [lo,ae4,iO,jJ c7];rw [af'] at hu;split at hu
    · simpa using hu
    · cases hu
  by_cases ar:cap<n+ys.length
  · obtain ⟨aX,cf,cs',w',fs,gD,hs,jc,mh,mi,mX,mY⟩:=Lo (ty:=o.type) aP aI.wf (base:=some ⟨b,0,none⟩) (n:=n) (cap:=cap) (olds:=vs.toList.take n) (xs:=cs.take n) aN bs cZ dr bI U dV hH xI
      (pD w.drew fun _=>rfl) fl c8 dP ar aq er
    have hN:ao.Sub ((aT s R).set aX (.box e cs')) ((aT s L).set aX (.box e cs')):=by
      refine CP (k := .own aX) ?_;rw [cb];exact x5 (k := .own b) (ao.oN _) b1
    have aw:aT s R aX=none:=by
      have h:=gD;rw [cb] at h;exact (ao.uk h).2
    exact ⟨_,w',_,p,_,eM _ _ fs,hs,jc.sub hN,mh.sub hN,⟨aX,cf,cs',rfl,rfl,⟨aw,eV⟩,mi,mX,mY⟩,.hB _⟩
  · obtain ⟨info,d,g1,g2,g3,-⟩:=aP.parts aN
    obtain ⟨mK,c6,ek,dj,dT,-⟩:=aP.parts cZ;obtain ⟨jU,kA,cA,db,fe,eH,jV,js⟩:=aP.parts bI;have ax:d = .slice e:=by rw [bs] at g3;cases d<;>simp [ez] at g3;rw [g3]
    subst ax;have cm:∀ k,c6 ≠ .int k:=fun k e'=>by subst e';exact dr k dT.symm
    subst c8;obtain ⟨us,il,pB,jW,ki,sY,sZ,s0⟩:=qu (sz':=1) fl (.inr rfl);have mQ:=il.length;have j3:∀ x∈us,x.oneCell'=true:=qs il dP;have tj:flat us=us:=ti j3;have eL:vs.size=cap:=by rw [← ac7];exact ft
    have cN:=Cn (ty:=o.type) (P:=P) w g2 dj cm cA b n cap vs c7 (xv:=ga) (m:=ys.length) (news:=us) (jW P) (by rw [eH,U];(conv=>rhs;rw [← tj]);exact ki P w (fun _ _ _=>rfl)) j3 ag (by rw [eH,U,eL];omega);rw [eH,U,ag7] at cN;have hh:bF w p (vs.toList.take n++us++vs.toList.drop (n+us.length)) (cs.take n++ys++cs.drop (n+us.length)):=bF.append (bF.append hH il) (dh.drop _);have cj:(aT s L) b=some (.box e cs):=au.get I
    obtain ⟨df,kl,iG⟩:=vM aI.wf cj (vs':=(vs.toList.take n++us++vs.toList.drop (n+us.length)).toArray) (cs':=cs.take n++ys++cs.drop (n+us.length)) (fun z' br=>by
      rw [c7] at br;cases br
      simp only [ak7,f8,ac8,ag2,ft]
      rw [eL];omega) (by simpa using hh) _ C
    obtain ⟨f1,f2⟩:=au.put (.box e (cs.take n++ys++cs.drop (n+us.length))) I;refine ⟨_,_,_,p,_,eM _ _ cN,df,kl,iG,⟨b,cap,cs.take n++ys++cs.drop (n+us.length),rfl,f1,f2,?_,by omega,?_⟩,.hB _⟩
    · simp only [f8,ac8,ag2,ct];omega
    · have:(cs.take n++ys).length=n+ys.length:=by simp [ct];omega
      rw [ag4 ag,af0 ag]
theorem a7.Gv (aP:bQ P Γ) {t bH e:TypeId} {x y:Operand} {it cw aG:bN} {dZ bU:Nat} {dk:bM}
  (ah:o.op = .call { callee := .builtin .append,args := #[x,y],argTypes := #[t,bH] }) (aN:Γ.get? t=some it) (bs:it.bG = .aC e) (cZ:Γ.get? bH=some cw) (dr:∀ k,cw.bG ≠ .int k)
  (bI:Γ.get? e=some aG) (ab:aL env x=some (.aC dZ [] .nil)) (ay:aL env y=some (.aC bU [] dk)) {X:af→ao→Prop}:a7 P N o env s (fun r al=>r = .aC 0 [] .nil∧al=s) X:=by
 refine a7.ky jf fun ro B a w p aI=>?_
 have gl:=aI.aL ab;have fl:=aI.aL ay;have eM:=fun val w'=>uF (P:=P) (a:=a) (val:=val) (w:=w) (w':=w') ah
 generalize eA:a.eval x=dX at gl eM;generalize ff:a.eval y=ga at fl eM;have tk:dX = .slice none 0 0:=by
  cases gl with
  | hY=>rfl
  | iA a _ _ h=>rcases h with h|h<;>cases h
  | aC g off n cap _ vs _ _ az=>exact absurd C az
 subst tk;obtain ⟨info,d,g1,g2,g3,-⟩:=aP.parts aN;obtain ⟨mK,c6,ek,dj,dT,-⟩:=aP.parts cZ;obtain ⟨jU,kA,cA,db,fe,eH,jV,js⟩:=aP.parts bI;have ax:d = .slice e:=by rw [bs] at g3;cases d<;>simp [ez] at g3;rw [g3]
 subst ax;have cm:∀ k,c6 ≠ .int k:=fun k e'=>by subst e';exact dr k dT.symm
 obtain ⟨us,il,pB,jW,ki,sY,sZ,s0⟩:=qu (sz':=aG.size) fl (.inl rfl);cases il;have aB:=jW P;have aZ:=ki P w (fun _ _ _=>rfl);rw [List.length_nil] at aB aZ;have bO:(match c6 with | .int _=>true|_=>false)=false:=by cases c6<;>first|rfl|exact absurd C (cm _)
 have cN:(Builtin.append_ #[t,bH] o.type #[.slice none 0 0,ga]).run P w = .ok (.slice none 0 0) w:=by
  simp [Builtin.append_,run_underlying g2,run_underlying dj,sizeOf,typeInfo,cA,eH,bO,aB,aZ]
 exact ⟨_,w,s,p,_,eM _ _ cN,.refl w p,.refl s w p,aI.wf,⟨rfl,rfl⟩,.hY _ _ (fun _=>by simp)⟩
theorem aa.Gv (aP:bQ P Γ) {t bH e:TypeId} {x y:Operand} {it cw aG:bN} {dZ bU:Nat} {dk:bM} (aw:guardOf ops env o=some true) (ax:o.dst=some d) (aW:t6 d N=true)
  (ah:o.op = .call { callee := .builtin .append,args := #[x,y],argTypes := #[t,bH] }) (aN:Γ.get? t=some it) (bs:it.bG = .aC e) (cZ:Γ.get? bH=some cw) (dr:∀ k,cw.bG ≠ .int k)
  (bI:Γ.get? e=some aG) (ab:aL env x=some (.aC dZ [] .nil)) (ay:aL env y=some (.aC bU [] dk)) (h:aa P N ops l Q ((d,.aC 0 [] .nil)::env) s):aa P N ops (o::l) Q env s:=
 aa.op aw ax aW (a7.Gv aP ah aN bs cZ dr bI ab ay (X:=fun _ _=>False)) (fun x al ⟨U,ae⟩=>by subst U;subst ae;exact h) (fun _ _ h=>h.elim)
theorem aa.Gt (aP:bQ P Γ) (I:Ok s L) {t bH e:TypeId} {x y:Operand} {it cw aG:bN} {dZ bU:Nat} {ys:List af} {dk:bM} (aw:guardOf ops env o=some true) (ax:o.dst=some d) (aW:t6 d N=true)
  (ah:o.op = .call { callee := .builtin .append,args := #[x,y],argTypes := #[t,bH] }) (aN:Γ.get? t=some it) (bs:it.bG = .aC e) (cZ:Γ.get? bH=some cw) (dr:∀ k,cw.bG ≠ .int k)
  (bI:Γ.get? e=some aG) (U:aG.size=1) (dV:ac' aG.zero.cells.size aG.size=true) (ab:aL env x=some (.aC dZ [] .nil)) (ay:aL env y=some (.aC bU ys dk)) (c8:bU=1) (dP:ys.all fa=true) (cO:1≤ys.length) (aq:ys.length*aG.bytes≤140737488355328) (er:ys.length≤9223372036854775807)
  (h:∀ aX cf cs',cs'.length=cf→ys.length≤cf→cs'.take ys.length=ys→Ok s ((.own aX,.box e cs')::L)→aa P N ops l Q ((d,eu aX ys.length cf)::env) (aT s ((.own aX,.box e cs')::L))):aa P N ops (o::l) Q env (aT s L):=by
 refine aa.op aw ax aW (a7.Gt aP I ah aN bs cZ dr bI U dV ab ay c8 dP cO aq er (X:=fun _ _=>False)) ?_ (fun _ _ h=>h.elim);rintro r al ⟨aX,cf,cs',rfl,rfl,ae,an,bd,bD⟩;exact h aX cf cs' an bd bD ae
theorem aa.Gu (aP:bQ P Γ) (I:Ok s L) {t bH e:TypeId} {x y:Operand} {it cw aG:bN} {b n cap bU:Nat} {cs ys:List af} {dk:bM} (aw:guardOf ops env o=some true) (ax:o.dst=some d) (aW:t6 d N=true)
  (ah:o.op = .call { callee := .builtin .append,args := #[x,y],argTypes := #[t,bH] }) (aN:Γ.get? t=some it) (bs:it.bG = .aC e) (cZ:Γ.get? bH=some cw) (dr:∀ k,cw.bG ≠ .int k)
  (bI:Γ.get? e=some aG) (U:aG.size=1) (dV:ac' aG.zero.cells.size aG.size=true) (ab:aL env x=some (eu b n cap)) (au:bp L (.own b) (.box e cs) R) (ct:cs.length=cap) (az:n≤cap) (iC:(cs.take n).all fa=true)
  (ay:aL env y=some (.aC bU ys dk)) (c8:bU=1) (dP:ys.all fa=true) (aq:(n+ys.length)*aG.bytes≤140737488355328) (er:n+ys.length≤9223372036854775807)
  (h:∀ aX cf cs',cs'.length=cf→n+ys.length≤cf→cs'.take (n+ys.length)=cs.take n++ys→Ok s ((.own aX,.box e cs')::R)→aa P N ops l Q ((d,eu aX (n+ys.length) cf)::env) (aT s ((.own aX,.box e cs')::R))):aa P N ops (o::l) Q env (aT s L):=by
 refine aa.op aw ax aW (a7.Gu aP I ah aN bs cZ dr bI U dV ab au ct az iC ay c8 dP aq er (X:=fun _ _=>False)) ?_ (fun _ _ h=>h.elim);rintro r al ⟨aX,cf,cs',rfl,rfl,ae,an,bd,bD⟩;exact h aX cf cs' an bd bD ae
end
section
variable {P:Program} {Γ:cz} {N:Nat} {ops:Array Oper} {Q:b8→Env→ao→Prop} {env:Env} {s:ao} {l:List Oper} {o:Oper} {d:Nat} {L R:a'}
def r1 (b off n cap:Nat):af := .hB (.slice (some ⟨b,off,none⟩) n cap)
theorem Lp {t bH:TypeId} {x y:Operand} {a:Act} {val:Value} {w w':World} (ah:o.op = .call { callee := .builtin .copy,args := #[x,y],argTypes := #[t,bH] }) (h:(Builtin.copy_ #[t,bH] o.type #[a.eval x,a.eval y]).run P w = .ok val w') :
  (execOp a.eval o).run P w = .ok (.value val) w':=by
 unfold execOp;rw [ah];simp only [resolve,invoke,builtin,aa',ac5,g9,ao2,ac4,ae5,h]
theorem Lq (I:Ok s L) {w:World} {p:bT} {b off:Nat} {e:TypeId} {cs ys:List af} {us:List Value} {vs:Array Value} (cd:dq w p (aT s L)) (au:bp L (.own b) (.box e cs) R) (c7:w.heap[b]? = some (.cells vs e (0,0))) (dh:bF w p vs.toList cs) (hu:bF w p us ys) (fB:off+ys.length≤cs.length) :
  de w p (w.setRow b (vs.toList.take off++us++vs.toList.drop (off+us.length)).toArray) p∧Kept (aT s L) (aT s ((.own b,.box e (cs.take off++ys++cs.drop (off+ys.length)))::R)) w p (w.setRow b (vs.toList.take off++us++vs.toList.drop (off+us.length)).toArray) p ∧
   dq (w.setRow b (vs.toList.take off++us++vs.toList.drop (off+us.length)).toArray) p (aT s ((.own b,.box e (cs.take off++ys++cs.drop (off+ys.length)))::R))∧Ok s ((.own b,.box e (cs.take off++ys++cs.drop (off+ys.length)))::R):=by
 have mQ:=hu.length;have s4:=dh.length;have hh:bF w p (vs.toList.take off++us++vs.toList.drop (off+us.length)) (cs.take off++ys++cs.drop (off+ys.length)):=by
  rw [mQ];exact bF.append (bF.append (dh.take _) hu) (dh.drop _)
 obtain ⟨df,kl,iG⟩:=vM cd (au.get I) (vs':=(vs.toList.take off++us++vs.toList.drop (off+us.length)).toArray) (cs':=cs.take off++ys++cs.drop (off+ys.length)) (fun z' br=>by
  rw [c7] at br;cases br
  rw [ac7] at s4
  simp only [ak7,f8,ac8,ag2,ac7]
  omega) (by simpa using hh) _ C
 obtain ⟨f1,f2⟩:=au.put (.box e (cs.take off++ys++cs.drop (off+ys.length))) I;rw [f1] at kl iG;exact ⟨df,kl,iG,f2⟩
theorem a7.Gw (aP:bQ P Γ) (I:Ok s L) {t bH e:TypeId} {x y:Operand} {it aG:bN} {b off dl qR bU:Nat} {cs ys:List af} {dk:bM}
  (ah:o.op = .call { callee := .builtin .copy,args := #[x,y],argTypes := #[t,bH] }) (aN:Γ.get? t=some it) (bs:it.bG = .aC e) (bI:Γ.get? e=some aG) (U:aG.size=1) (ab:aL env x=some (r1 b off dl qR)) (au:bp L (.own b) (.box e cs) R)
  (ay:aL env y=some (.aC bU ys dk)) (c8:bU=1) (dP:ys.all fa=true) (ax:ys.length≤dl) (fB:off+ys.length≤cs.length) {X:af→ao→Prop} :
  a7 P N o env (aT s L) (fun r al=>r = .int .i64 ys.length∧al=aT s ((.own b,.box e (cs.take off++ys++cs.drop (off+ys.length)))::R)∧Ok s ((.own b,.box e (cs.take off++ys++cs.drop (off+ys.length)))::R)) X:=by
 refine a7.ky jf fun ro B a w p aI=>?_
 have gl:=aI.aL ab;have fl:=aI.aL ay;have eM:=fun val w'=>Lp (P:=P) (a:=a) (val:=val) (w:=w) (w':=w') ah
 generalize eA:a.eval x=dX at gl eM;generalize ff:a.eval y=ga at fl eM;cases gl;obtain ⟨info,d,g1,g2,g3,-⟩:=aP.parts aN;obtain ⟨jU,kA,cA,db,fe,eH,jV,js⟩:=aP.parts bI;have cm:d = .slice e:=by rw [bs] at g3;cases d<;>simp [ez] at g3;rw [g3]
 subst cm;subst c8;obtain ⟨us,il,pB,jW,ki,sY,sZ,s0⟩:=qu (sz':=1) fl (.inr rfl);have mQ:=il.length;have j3:∀ x∈us,x.oneCell'=true:=qs il dP;have tj:flat us=us:=ti j3;obtain ⟨vs,c7,dh,e3⟩:=aI.wf.obj _ _ (au.get I);have s4:=dh.length;rw [ac7] at s4;have aB:=jW P;have aZ:=ki P w (fun _ _ _=>rfl);rw [tj] at aZ;have wj:=run_storeCells_at P b off e us 0 vs w c7 ag j3;simp only [Nat.add_zero] at wj;have TS:Nat.min ys.length dl=ys.length:=ak2 ax;have cN:(Builtin.copy_ #[t,bH] o.type #[.slice (some ⟨b,off,none⟩) dl qR,ga]).run P w = .ok (.int .i64 ys.length) (w.setRow b (vs.toList.take off++us++vs.toList.drop (off+us.length)).toArray):=by
  simp [Builtin.copy_,run_underlying g2,sizeOf,typeInfo,cA,eH,U,aB,TS,aZ,wj,goInt]
 obtain ⟨ek,dj,dT,mO⟩:=Lq I aI.wf au c7 dh il fB;exact ⟨_,_,_,p,_,eM _ _ cN,ek,dj,dT,⟨rfl,rfl,mO⟩,.int _ _⟩
theorem a7.AA (aP:bQ P Γ) (I:Ok s L) {t bH e:TypeId} {x y:Operand} {it aG:bN} {b off dl qR jA bt yj k:Nat} {cs:List af}
    (ah:o.op = .call { callee := .builtin .copy,args := #[x,y],argTypes := #[t,bH] }) (aN:Γ.get? t=some it) (bs:it.bG = .aC e) (bI:Γ.get? e=some aG) (U:aG.size=1) (ab:aL env x=some (r1 b off dl qR)) (au:bp L (.own b) (.box e cs) R)
    (ay:aL env y=some (r1 b jA bt yj)) (aD:k=min bt dl) (dP:((cs.drop jA).take k).all fa=true) (ae:jA+k≤cs.length) (fB:off+k≤cs.length) {X:af→ao→Prop} :
    a7 P N o env (aT s L) (fun r al=>r = .int .i64 k∧al=aT s ((.own b,.box e (cs.take off++(cs.drop jA).take k++cs.drop (off+k)))::R)∧Ok s ((.own b,.box e (cs.take off++(cs.drop jA).take k++cs.drop (off+k)))::R)) X:=by
  refine a7.ky jf fun ro B a w p aI=>?_
  have gl:=aI.aL ab;have fl:=aI.aL ay;have eM:=fun val w'=>Lp (P:=P) (a:=a) (val:=val) (w:=w) (w':=w') ah
  generalize eA:a.eval x=dX at gl eM;generalize ff:a.eval y=ga at fl eM;cases gl;cases fl;obtain ⟨info,d,g1,g2,g3,-⟩:=aP.parts aN;obtain ⟨jU,kA,cA,db,fe,eH,jV,js⟩:=aP.parts bI;have cm:d = .slice e:=by rw [bs] at g3;cases d<;>simp [ez] at g3;rw [g3]
  subst cm;obtain ⟨vs,c7,dh,e3⟩:=aI.wf.obj _ _ (au.get I);have s4:=dh.length;have sU:bF w p ((vs.toList.drop jA).take k) ((cs.drop jA).take k):=(dh.drop _).take _;have j3:=qs sU dP;have kD:((vs.toList.drop jA).take k).length=k:=by rw [ac8,ag2];omega
  have ct:((cs.drop jA).take k).length=k:=by rw [ac8,ag2];omega
  rw [ac7] at s4
  have cN:=run_copy_row P w t bH o.type e b off dl qR ⟨b,jA,none⟩ bt yj vs e ((vs.toList.drop jA).take k) g2 (by rw [cA];simp [eH,U]) c7 (by rw [kD,aD]) (fun j u hu=>by
    rw [lo,jJ c7]
    rw [af'] at hu
    split at hu
    · rw [as'] at hu
      simpa using hu
    · cases hu) (by rw [kD];omega) j3
  rw [kD] at cN;obtain ⟨ek,dj,dT,mO⟩:=Lq (off:=off) I aI.wf au c7 dh sU (by rw [ct];exact fB);rw [kD] at ek dj dT;rw [ct] at dj dT mO;exact ⟨_,_,_,p,_,eM _ _ cN,ek,dj,dT,⟨rfl,rfl,mO⟩,.int _ _⟩
theorem aa.Gw (aP:bQ P Γ) (I:Ok s L) {t bH e:TypeId} {x y:Operand} {it aG:bN} {b off dl qR bU:Nat} {cs ys:List af} {dk:bM} (aw:guardOf ops env o=some true) (ax:o.dst=some d) (aW:t6 d N=true)
  (ah:o.op = .call { callee := .builtin .copy,args := #[x,y],argTypes := #[t,bH] }) (aN:Γ.get? t=some it) (bs:it.bG = .aC e) (bI:Γ.get? e=some aG) (U:aG.size=1) (ab:aL env x=some (r1 b off dl qR)) (au:bp L (.own b) (.box e cs) R)
  (ay:aL env y=some (.aC bU ys dk)) (c8:bU=1) (dP:ys.all fa=true) (wN:ys.length≤dl) (fB:off+ys.length≤cs.length)
  (h:Ok s ((.own b,.box e (cs.take off++ys++cs.drop (off+ys.length)))::R)→aa P N ops l Q ((d,.int .i64 ys.length)::env) (aT s ((.own b,.box e (cs.take off++ys++cs.drop (off+ys.length)))::R))):aa P N ops (o::l) Q env (aT s L):=
 aa.op aw ax aW (a7.Gw aP I ah aN bs bI U ab au ay c8 dP wN fB (X:=fun _ _=>False)) (fun x al ⟨U,ae,an⟩=>by subst U;subst ae;exact h an) (fun _ _ h=>h.elim)
theorem aa.AA (aP:bQ P Γ) (I:Ok s L) {t bH e:TypeId} {x y:Operand} {it aG:bN} {b off dl qR jA bt yj:Nat} (k:Nat) {cs:List af} (aw:guardOf ops env o=some true) (ax:o.dst=some d) (aW:t6 d N=true)
  (ah:o.op = .call { callee := .builtin .copy,args := #[x,y],argTypes := #[t,bH] }) (aN:Γ.get? t=some it) (bs:it.bG = .aC e) (bI:Γ.get? e=some aG) (U:aG.size=1) (ab:aL env x=some (r1 b off dl qR)) (au:bp L (.own b) (.box e cs) R)
  (ay:aL env y=some (r1 b jA bt yj)) (aD:k=min bt dl) (dP:((cs.drop jA).take k).all fa=true) (ae:jA+k≤cs.length) (fB:off+k≤cs.length)
  (h:Ok s ((.own b,.box e (cs.take off++(cs.drop jA).take k++cs.drop (off+k)))::R)→aa P N ops l Q ((d,.int .i64 k)::env) (aT s ((.own b,.box e (cs.take off++(cs.drop jA).take k++cs.drop (off+k)))::R))):aa P N ops (o::l) Q env (aT s L):=
 aa.op aw ax aW (a7.AA aP I ah aN bs bI U ab au ay aD dP ae fB (X:=fun _ _=>False)) (fun x al ⟨U,ae,an⟩=>by subst U;subst ae;exact h an) (fun _ _ h=>h.elim)
theorem bo.AA {J:ao→Prop} {m:Nat} (i:Nat) (aP:bQ P Γ) (I:Ok s L) {t bH e:TypeId} {x y:Operand} {it aG:bN} {b off dl qR jA bt yj:Nat} (k:Nat) {cs:List af} (aF:eI l.toArray m (idxs 0 l)=[i]) (aQ:l.toArray[i]? = some o) (ax:o.dst=some d) (aW:t6 d N=true)
  (aw:c9 l env o)
  (ah:o.op = .call { callee := .builtin .copy,args := #[x,y],argTypes := #[t,bH] }) (aN:Γ.get? t=some it) (bs:it.bG = .aC e) (bI:Γ.get? e=some aG) (U:aG.size=1) (ab:aL (b4 l env o) x=some (r1 b off dl qR)) (au:bp L (.own b) (.box e cs) R)
  (ay:aL (b4 l env o) y=some (r1 b jA bt yj)) (aD:k=min bt dl) (dP:((cs.drop jA).take k).all fa=true) (ae:jA+k≤cs.length) (fB:off+k≤cs.length)
  (aK:Ok s ((.own b,.box e (cs.take off++(cs.drop jA).take k++cs.drop (off+k)))::R)→J (aT s ((.own b,.box e (cs.take off++(cs.drop jA).take k++cs.drop (off+k)))::R))∨kE l.toArray i=true)
  (h:Ok s ((.own b,.box e (cs.take off++(cs.drop jA).take k++cs.drop (off+k)))::R)→bo J P Γ N l.toArray Q (bX (m|||2^i)) ((d,.int .i64 k)::env) (aT s ((.own b,.box e (cs.take off++(cs.drop jA).take k++cs.drop (off+k)))::R))):bo J P Γ N l.toArray Q (bX m) env (aT s L):=
 bo.one aF aQ ax aW aw (a7.AA aP I ah aN bs bI U ab au ay aD dP ae fB (X:=fun _ _=>False)) (fun x al ⟨U,ae,an⟩=>by subst U;subst ae;exact aK an) (fun x al ⟨U,ae,an⟩=>by subst U;subst ae;exact h an) (fun _ _ h=>h.elim)
theorem a7.Gx (aP:bQ P Γ) {t e:TypeId} {x y:Operand} {it aG:bN} {b n cap k:Nat} {qK:IntKind} (ah:o.op = .slice t x (some y) none none) (aN:Γ.get? t=some it) (bs:it.bG = .aC e) (bI:Γ.get? e=some aG) (U:aG.size=1) (ab:aL env x=some (eu b n cap)) (ay:aL env y=some (.int qK (k:Int))) (aD:k≤n) (az:n≤cap) (B8:k<cap) :
  a7 P N o env s (fun x al=>x=r1 b k (n-k) (cap-k)∧al=s) (fun _ _=>False):=by
 refine a7.nn jf fun ro B a w p aI=>?_
 obtain ⟨info,d,g1,g2,g3,-⟩:=aP.parts aN;obtain ⟨jU,kA,cA,db,fe,eH,-⟩:=aP.parts bI;have ax:d = .slice e:=by rw [bs] at g3;cases d<;>simp [ez] at g3;rw [g3]
 subst ax;have aF:=aI.aL ab;have fl:=aI.aL ay;generalize eA:a.eval x=dX at aF;generalize ff:a.eval y=ga at fl;cases aF;cases fl;refine .same (val := .slice (some ⟨b,k,none⟩) (n-k) (cap-k)) ?_ (.hB _);unfold execOp;rw [ah];simp only [eA,aq3,al9,ff];refine gV ?_;have lr:(k:Int)≤(n:Int):=by omega
 have tv:(n:Int)≤(cap:Int):=by omega
 have aq:(Instr.sliceBounds true n cap (some (.int qK (k:Int))) none none).run P w = .ok (k,n,cap) w:=by
  simp [Instr.sliceBounds,run_sliceBound,lr,tv]
 have br:cap-k≠0:=by omega
 simp only [Instr.sliceAt,Instr.slice,aa',run_underlying g2,g9,aq,sizeOf,typeInfo,run_program,cA,ac5,eH,U];simp [br,lo];intro cP;omega
theorem bo.Gx {J:ao→Prop} {m:Nat} (i:Nat) (aP:bQ P Γ) (cD:J s) {t e:TypeId} {x y:Operand} {it aG:bN} {b n cap:Nat} (k:Nat) {qK:IntKind} (aF:iF l.toArray m i=true) (aQ:l.toArray[i]? = some o) (ax:o.dst=some d) (aW:t6 d N=true)
  (aw:c9 l env o) (ah:o.op = .slice t x (some y) none none) (aN:Γ.get? t=some it) (bs:it.bG = .aC e) (bI:Γ.get? e=some aG) (U:aG.size=1) (ab:aL (b4 l env o) x=some (eu b n cap)) (ay:aL (b4 l env o) y=some (.int qK (k:Int))) (aD:k≤n) (az:n≤cap) (B8:k<cap)
  (h:bo J P Γ N l.toArray Q (bX (m|||2^i)) ((d,r1 b k (n-k) (cap-k))::env) s):bo J P Γ N l.toArray Q (bX m) env s:=
 bo.rM cD aF aQ ax aW aw (fun _ _=>a7.Gx aP ah aN bs bI U ab ay aD az B8) h
theorem bo.Ad {J:ao→Prop} {m:Nat} (i:Nat) (aP:bQ P Γ) (cD:J s) {t e:TypeId} {x y:Operand} {it aG:bN} {b n cap:Nat} (k:Nat) {qK:IntKind} (aF:iF l.toArray m i=true) (aQ:l.toArray[i]? = some o) (ax:o.dst=some d) (aW:t6 d N=true)
  (aw:c9 l env o) (ah:o.op = .slice t x none (some y) none) (aN:Γ.get? t=some it) (bs:it.bG = .aC e) (bI:Γ.get? e=some aG) (ab:aL (b4 l env o) x=some (eu b n cap)) (ay:aL (b4 l env o) y=some (.int qK (k:Int))) (aD:k≤cap)
  (h:bo J P Γ N l.toArray Q (bX (m|||2^i)) ((d,eu b k cap)::env) s):bo J P Γ N l.toArray Q (bX m) env s:=
 bo.rM cD aF aQ ax aW aw (fun _ _=>a7.Ad aP ah aN bs bI ab ay aD) h
end
section
variable {J:ao→Prop} {P:Program} {Γ:cz} {N:Nat} {Q:b8→Env→ao→Prop} {env:Env} {s:ao} {l:List Oper} {o:Oper} {d m:Nat}
theorem bo.r2 (i:Nat) (cD:J s) {g:Operand} {name:String} {fS:Array Operand} {c0:Array TypeId} {t:TypeId} {v:af} {f:FuncId} {xs:List af} {r:af} (aF:iF l.toArray m i=true) (aQ:l.toArray[i]? = some o) (ax:o.dst=some d) (aW:t6 d N=true)
  (aw:c9 l env o) (ah:o.op = .call { callee := .invoke g name,args:=fS,argTypes:=c0 }) (av:aL (b4 l env o) g=some (.iface t v)) (a8:fQ (b4 l env o) fS.toList=some xs) (hm:pF P t name f) (h:aR P f (v::xs) r)
  (aD:bo J P Γ N l.toArray Q (bX (m|||2^i)) ((d,r)::env) s):bo J P Γ N l.toArray Q (bX m) env s:=
 bo.rM cD aF aQ ax aW aw (fun s _=>(a7.invoke ah av a8 hm (h s)).mono (fun x al h=>by cases h.1;exact ⟨rfl,h.2⟩) (fun x al h=>by cases h.1)) aD
end
section
variable {J:ao→Prop} {P:Program} {Γ:cz} {N:Nat} {l:List Oper} {i:Nat} {rest:List Oper} {Q:b8→Env→ao→Prop} {env:Env} {s:ao} {o:Oper} {d:Nat}
theorem aJ.r2 {g:Operand} {name:String} {fS:Array Operand} {c0:Array TypeId} {t:TypeId} {v:af} {f:FuncId} {xs:List af} {r:af} (aw:c9 l env o) (ax:o.dst=some d) (aW:t6 d N=true)
  (ah:o.op = .call { callee := .invoke g name,args:=fS,argTypes:=c0 }) (av:aL (b4 l env o) g=some (.iface t v)) (a8:fQ (b4 l env o) fS.toList=some xs) (hm:pF P t name f) (h:aR P f (v::xs) r)
  (aD:aJ J P Γ N l (i+1) rest Q ((d,r)::env) s):aJ J P Γ N l i (o::rest) Q env s:=
 aJ.calm aw ax aW (fun s _=>(a7.invoke ah av a8 hm (h s)).mono (fun x al h=>by cases h.1;exact ⟨rfl,h.2⟩) (fun x al h=>by cases h.1)) aD
end
section
variable {J:ao→Prop} {P:Program} {Γ:cz} {N:Nat} {l:List Oper} {i:Nat} {rest:List Oper} {Q:b8→Env→ao→Prop} {env:Env} {s:ao} {o:Oper} {d:Nat}
theorem aJ.gM {L R K:a'} {acv:eB→a'→Prop} {g:Operand} {fv:af} {fS:Array Operand} {c0:Array TypeId} {xs:List af} (aw:c9 l env o) (ax:o.dst=some d) (aW:t6 d N=true) (l2:kE l.toArray i=true)
  (b5:o.op = .call { callee := .value g,args:=fS,argTypes:=c0 }) (av:aL (b4 l env o) g=some fv) (a8:fQ (b4 l env o) fS.toList=some xs) (h:dt P fv xs K acv) (I:Ok s L) (au:aH L K R)
  (aD:∀ x aO,acv (.ret x) aO→Ok s (aO++R)→Q .normal ((d,x)::env) (aT s (aO++R))) (ab:∀ x aO,acv (.panic x) aO→Ok s (aO++R)→Q (.panic x) [] (aT s (aO++R))):aJ J P Γ N l i [o] Q env (aT s L):=
 aJ.last aw ax aW l2 (a7.gM b5 av a8 h I au) (fun x al ⟨aO,U,ae,an⟩=>by subst U;exact aD x aO an ae) (fun x al ⟨aO,U,ae,an⟩=>by subst U;exact ab x aO an ae)
end
section
variable {J:ao→Prop} {P:Program} {Γ:cz} {N:Nat} {l:List Oper} {i:Nat} {rest:List Oper} {Q:b8→Env→ao→Prop} {env:Env} {s:ao} {o:Oper} {d:Nat}
theorem aJ.fo (aP:bQ P Γ) {t e:TypeId} {x y:Operand} {it aG:bN} {b n cap:Nat} {k:IntKind} {z:Int} (j:Nat) (aw:c9 l env o) (ax:o.dst=some d) (aW:t6 d N=true)
  (ah:o.op = .indexAddr t x y) (aN:Γ.get? t=some it) (bs:it.bG = .aC e) (bI:Γ.get? e=some aG)
  (ab:aL (b4 l env o) x=some (eu b n cap)) (ay:aL (b4 l env o) y=some (.int k z)) (eN:z=(j:Int)) (aK:j<n)
  (h:aJ J P Γ N l (i+1) rest Q ((d,.ptr b (j*aG.size))::env) s):aJ J P Γ N l i (o::rest) Q env s:=
 aJ.calm aw ax aW (fun _ _=>a7.fo aP ah aN bs bI ab ay eN aK) h
end
end Go.cW
