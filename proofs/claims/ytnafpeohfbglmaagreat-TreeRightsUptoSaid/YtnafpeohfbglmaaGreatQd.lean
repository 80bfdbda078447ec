import Derived.Test.YtnafpeohfbglmaaGreatQc
import Derived.Shelf.Sort.Plain
import Derived.KernelRfl
import Derived.WalkKit
import Derived.Defers
import Derived.Recover
import Derived.Laws.MakeOwn
import Derived.Laws.CopyRow
set_option linter.unusedVariables false
set_option linter.unusedSimpArgs false
set_option maxRecDepth 100000
set_option maxHeartbeats 4000000
open List (any_eq_true append_nil contains_iff_mem getD_eq_getElem?_getD getElem?_eq_getElem getElem?_map getElem?_of_mem getElem?_take isEmpty length_append length_cons length_drop length_map length_replicate length_singleton length_take length_take_le' map_append map_cons mem_append mem_cons mem_cons_of_mem mem_cons_self mem_filter mem_map mem_of_getElem? mem_singleton size_toArray take_length take_of_length_le take_zero)
open Nat (eq_of_beq_eq_true le_trans lt_succ_iff_lt_or_eq min_eq_left mod_eq_of_lt mul_one testBit_two_pow_sub_one zero_add zero_le)
open Bool (and_eq_true eq_false_iff or_eq_true)
open Option (getD_some map_some)
open Array (getElem?_modify length_toList)
theorem FE {p:Prop} (h:p:=by rw [bt];exact (by simp only [List.length_map,List.length_nil];exact aX)):p:=h
theorem xO {p:Prop} (h:p:=by repeat (first|exact trivial|refine ⟨⟨_,rfl,aL⟩,?_⟩|refine ⟨⟨_,rfl,aS.of_eq (by (first|rw [jD (by omega)]|(rw [List.map_append];rfl)))⟩,?_⟩)):p:=h
theorem kq {p:Prop} (h:p:=by repeat (first|exact trivial|refine ⟨⟨_,rfl,aL⟩,?_⟩|refine ⟨⟨_,rfl,aS.of_eq (by (first|rw [jD (by omega)]|rw [ar]))⟩,?_⟩)):p:=h
theorem zK {p:Prop} (h:p:=by repeat (first|exact trivial|refine ⟨⟨_,rfl,aL⟩,?_⟩|refine ⟨⟨_,rfl,aS.of_eq (by simp)⟩,?_⟩)):p:=h
theorem FF {p:Prop} (h:p:=by show aH _ [(_,.row _ _ (xs (j+1)).length)] _;rw [df];exact aH.cons bp.here .nil):p:=h
theorem zL {p:Prop} (h:p:=by (rw [ek (by omega) (by omega)];push_cast;rfl)):p:=h
theorem CI {p:Prop} (h:p:=by (rw [ek (by omega) (by omega)];rfl)):p:=h
theorem FG {p:Prop} (h:p:=by rw [ek (by omega) (by omega)];omega):p:=h
theorem FH {p:Prop} (h:p:=by show cur.length-(i+1)<cur.length-i;omega):p:=h
theorem FI {p:Prop} (h:p:=by show 2+g.length-(j+1)<2+g.length-j;omega):p:=h
theorem ru {p:Prop} (h:p:=by show xs.length-(j+1)<xs.length-j;omega):p:=h
theorem sO {p:Prop} (h:p:=by show g.length-(j+1)<g.length-j;omega):p:=h
theorem CJ {p:Prop} (h:p:=by show a.length-(j+1)<a.length-j;omega):p:=h
theorem t' {p:Prop} (h:p:=by rw [List.length_replicate];omega):p:=h
theorem px {p:Prop} (h:p:=by show (_+1)*24≤_;omega):p:=h
theorem j9 {p:Prop} (h:p:=by show (_+1)*8≤_;omega):p:=h
theorem gW {p:Prop} (h:p:=by intro b h;cases h):p:=h
theorem sP {p:Prop} (h:p:=by simpa using U):p:=h
theorem en {p:Prop} (h:p:=by intro k;simp):p:=h
theorem hi {p:Prop} (h:p:=by simp<;>omega):p:=h
theorem dZ {p:Prop} (h:p:=by decide):p:=h
namespace Go.cU
def eo (b n cap:Nat):af := .hv (.slice (some ⟨b,0,none⟩) n cap)
theorem bG.zM {w:World} {p:bR}:∀ vs:List Value,bG w p vs (vs.map fun _ => .any)
 | [] => .nil
 | v::vs => .cons v .any vs _ (.any v) (bG.zM vs)
theorem zN {v:Value} (h:v.oneCell'=true):v.cells = #[v]:=by
 cases v<;>first|rfl|(simp [Value.oneCell'] at h;done)
theorem sQ:∀ {vs:List Value},(∀ v∈vs,v.oneCell'=true)→flat vs=vs
  | [],_=>rfl
  | v::vs,h=>by
    have U:=sQ (vs:=vs) fun u hu=>h u (mem_cons_of_mem _ hu)
    unfold flat at U ⊢;rw [List.flatMap_cons,U,zN (h v mem_cons_self)];rfl
section
variable {P:Program} {Γ:cw} {N:Nat} {ops:Array Oper} {Q:b8→Env→ao→Prop} {env:Env} {s:ao} {l:List Oper} {o:Oper} {d:Nat} {L R:a8}
def Grown (s:ao) (R:a8) (e:TypeId) (n:Nat) (xs:List af) (r:af) (aj:ao):Prop:=
 ∃ aW cd cs',r=eo aW n cd∧aj=aT s ((.own aW,.box e cs')::R)∧Ok s ((.own aW,.box e cs')::R)∧cs'.length=cd∧n≤cd∧cs'.take n=xs
theorem Kc (aP:bQ P Γ) {w:World} {p:bR} {S:ao} (cc:dm w p S) {t bH e ty:TypeId} {it ct aG:bM} {bU:Nat} {olds:List Value} {xs:List af} {v:af} {dj:bL} {base:Option Addr} {n cap:Nat} {qt:Value}
  (aM:Γ.get? t=some it) (br:it.bF = .aA e) (cV:Γ.get? bH=some ct) (dn:∀ k,ct.bF ≠ .int k) (bI:Γ.get? e=some aG) (U:aG.size=1) (dO:Nat.beq aG.zero.cells.size aG.size=true)
  (aF:bG w p olds xs) (az:n=xs.length) (pd:(Builtin.firstCells 1 n (.slice base n cap)).run P w.drew = .ok olds.toArray w.drew) (ay:Rel w p qt (.aA bU [v] dj)) (c8:bU=1) (dJ:e7 v=true)
  (au:cap<n+1) (aq:(n+1)*aG.bytes≤140737488355328) (ei:n+1≤9223372036854775807) :
  ∃ aW cd cs' w',(Builtin.append_ #[t,bH] ty #[.slice base n cap,qt]).run P w = .ok (.slice (some ⟨aW,0,none⟩) (n+1) cd) w'∧S aW=none∧dc w p w' p∧Kept S (S.set aW (.box e cs')) w p w' p∧dm w' p (S.set aW (.box e cs')) ∧
   cs'.length=cd∧n+1≤cd∧cs'.take (n+1)=xs++[v]:=by
 obtain ⟨info,d,g1,g2,g3,-⟩:=aP.parts aM;obtain ⟨mq,c3,ef,di,dL,-⟩:=aP.parts cV;obtain ⟨jL,kj,cD,dh,fa,eD,jM,jl⟩:=aP.parts bI;have ax:d = .slice e:=by rw [br] at g3;cases d<;>simp [ev] at g3;rw [g3]
 subst ax;have cl:∀ k,c3 ≠ .int k:=fun k e'=>by subst e';exact dn k dL.symm
 obtain ⟨us,ic,pe,jN,j6,sy,sA,sB⟩:=qd ay (.inr c8);have my:=ic.length;cases ic with
 | cons u _ vk _ hu vS=>
 cases vS;subst c8;have sR:flat [u]=[u]:=sQ (by intro x ab;rw [mem_singleton] at ab;subst ab;exact EW hu dJ);have fy:=growslice_fits (need:=n+1) (old:=cap) (bytes:=aG.bytes) au aq;have cO:=zm (ty:=ty) w g2 di cl cD jl (base:=base) (sLen:=n) (sCap:=cap) (m:=1) (olds:=olds) (news:=[u]) (jN P)
  (by rw [eD,U];exact pd) (by rw [eD,U,← sR];exact j6 P w.drew (fun _ _ _=>rfl)) au ag (by rw [jM];exact fy)
 have m7:n+1≤grownCap w (n+1) cap e:=by simp [grownCap,Question.cut]
 have gn:olds.length=n:=by rw [aF.length,az]
 have ot:=eq_of_beq_eq_true dO;generalize sx:(Builtin.zeroCells aG.zero.cells (grownCap w (n+1) cap e-(n+1))).toList=aY at cO;have m8:aY.length=grownCap w (n+1) cap e-(n+1):=by
  rw [← sx,length_toList];simp [Builtin.zeroCells,ot,U]
 generalize grownCap w (n+1) cap e=G at cO m7 m8;have vT:=xr cc
 obtain ⟨ar,hle,aE,kM⟩:=rb vT (.cells (olds++[u]++aY).toArray e (0,0)) (.box e (xs++[v]++aY.map fun _ => .any)) (fun w' iL av fw=>⟨_,iL,by
  refine bG.append (bG.append (fw _ _ (show bG w.drew p olds xs from aF.mono kJ)) (fw _ _ (.cons _ _ _ _ (hu.mono kJ) .nil))) (bG.zM aY),fun o aD=>absurd (cc.lt _ _ aD) (by show ¬ w.heap.size<w.heap.size;omega)⟩)
 rw [show w.drew.heap.size=w.heap.size from rfl] at ar aE kM;refine ⟨w.heap.size,G,xs++[v]++aY.map (fun _=>af.any),_,cO,ar,kJ.trans hle,(va (w:=w) (p:=p)).trans (kJ (w:=w) (p:=p)).size aE,kM,?_,m7,?_⟩
 ·simp only [length_append,length_map,length_singleton,m8];omega
 ·rw [List.take_append_of_le_length cG,take_of_length_le cG]
theorem ua {t bH:TypeId} {x y:Operand} {a:Act} {val:Value} {w w':World} (ah:o.op = .call { callee := .builtin .append,args := #[x,y],argTypes := #[t,bH] }) (h:(Builtin.append_ #[t,bH] o.type #[a.eval x,a.eval y]).run P w = .ok val w') :
  (execOp a.eval o).run P w = .ok (.value val) w':=by
 unfold execOp;rw [ah];simp only [resolve,invoke,builtin,Sem.run_bind,Sem.run_pure,Result.andThen_ok,List.map_toArray,map_cons,List.map_nil,h]
theorem aZ.CK (aP:bQ P Γ) (I:Ok s L) {t bH e:TypeId} {x y:Operand} {it ct aG:bM} {dR bU:Nat} {v:af} {dj:bL}
  (ah:o.op = .call { callee := .builtin .append,args := #[x,y],argTypes := #[t,bH] }) (aM:Γ.get? t=some it) (br:it.bF = .aA e) (cV:Γ.get? bH=some ct) (dn:∀ k,ct.bF ≠ .int k)
  (bI:Γ.get? e=some aG) (U:aG.size=1) (dO:Nat.beq aG.zero.cells.size aG.size=true) (ab:aJ env x=some (.aA dR [] .nil)) (ay:aJ env y=some (.aA bU [v] dj)) (c8:bU=1) (dJ:e7 v=true) (aq:1*aG.bytes≤140737488355328)
  {X:af→ao→Prop}:aZ P N o env (aT s L) (fun r aj=>Grown s L e 1 [v] r aj) X:=by
 refine aZ.ki i' fun ro B a w p aI=>?_
 have ga:=aI.aJ ab;have fh:=aI.aJ ay;have eI:=fun val w'=>ua (P:=P) (a:=a) (val:=val) (w:=w) (w':=w') ah
 generalize ew:a.eval x=dP at ga eI;generalize fb:a.eval y=fU at fh eI;have sS:dP = .slice none 0 0:=by
  cases ga with
  | hR=>rfl
  | im a _ _ h=>rcases h with h|h<;>cases h
  | aA g off n cap _ vs _ _ az=>exact absurd C az
 subst sS
 obtain ⟨aW,cd,cs',w',fp,gB,hp,iW,l5,l6,mG,mH⟩:=Kc (ty:=o.type) aP aI.wf (base:=none) (n:=0) (cap:=0) (olds:=[]) (xs:=[]) aM br cV dn bI U dO .nil rfl (by
  have:=run_firstCells_none (P:=P) w.drew 1 0 0 0
  simpa using this) fh c8 dJ ag (by simpa using aq) ag
 exact ⟨_,w',_,p,_,eI _ _ fp,hp,iW,l5,⟨aW,cd,cs',rfl,rfl,⟨gB,I⟩,l6,mG,by simpa using mH⟩,.hv _⟩
theorem aZ.CL (aP:bQ P Γ) (I:Ok s L) {t bH e:TypeId} {x y:Operand} {it ct aG:bM} {b n cap bU:Nat} {cs:List af} {v:af} {dj:bL}
    (ah:o.op = .call { callee := .builtin .append,args := #[x,y],argTypes := #[t,bH] }) (aM:Γ.get? t=some it) (br:it.bF = .aA e) (cV:Γ.get? bH=some ct) (dn:∀ k,ct.bF ≠ .int k)
    (bI:Γ.get? e=some aG) (U:aG.size=1) (dO:Nat.beq aG.zero.cells.size aG.size=true) (ab:aJ env x=some (eo b n cap)) (ar:bp L (.own b) (.box e cs) R) (cv:cs.length=cap) (az:n≤cap) (iu:(cs.take n).all e7=true)
    (ay:aJ env y=some (.aA bU [v] dj)) (c8:bU=1) (dJ:e7 v=true) (aq:(n+1)*aG.bytes≤140737488355328) (ei:n+1≤9223372036854775807)
    {X:af→ao→Prop}:aZ P N o env (aT s L) (fun r aj=>Grown s R e (n+1) (cs.take n++[v]) r aj) X:=by
  obtain ⟨cg,bY,eR⟩:=ar.perm I;refine aZ.ki i' fun ro B a w p aI=>?_
  have ga:=aI.aJ ab;have fh:=aI.aJ ay;have eI:=fun val w'=>ua (P:=P) (a:=a) (val:=val) (w:=w) (w':=w') ah
  generalize ew:a.eval x=dP at ga eI;generalize fb:a.eval y=fU at fh eI;cases ga;obtain ⟨vs,c4,dd,eZ⟩:=aI.wf.obj _ _ (ar.get I);have fw:vs.toList.length=cap:=by rw [dd.length,cv]
  have hA:=dd.take n;have vU:=qb hA iu;have pg:∀ w':World,(∀ j,w'.cell? ⟨b,j,none⟩=w.cell? ⟨b,j,none⟩)→(Builtin.firstCells 1 n (.slice (some ⟨b,0,none⟩) n cap)).run P w' = .ok (vs.toList.take n).toArray w':=by
    intro w' iL;refine run_firstCells_some (P:=P) w' 1 n ⟨b,0,none⟩ n cap (vs.toList.take n) (by rw [length_take,fw];omega) (fun j u hu=>?_);rw [k5,zero_add,iL,jB c4];rw [getElem?_take] at hu;split at hu
    · simpa using hu
    · cases hu
  by_cases au:cap<n+1
  · obtain ⟨aW,cd,cs',w',fp,gB,hp,iW,l5,l6,mG,mH⟩:=Kc (ty:=o.type) aP aI.wf (base:=some ⟨b,0,none⟩) (n:=n) (cap:=cap) (olds:=vs.toList.take n) (xs:=cs.take n) aM br cV dn bI U dO hA xk
      (pg w.drew fun _=>rfl) fh c8 dJ au aq ei
    have hH:ao.Sub ((aT s R).set aW (.box e cs')) ((aT s L).set aW (.box e cs')):=by
      refine CC (k := .own aW) ?_;rw [cg];exact xK (k := .own b) (ao.ou _) bY
    have aw:aT s R aW=none:=by
      have h:=gB;rw [cg] at h;exact (ao.tL h).2
    exact ⟨_,w',_,p,_,eI _ _ fp,hp,iW.sub hH,l5.sub hH,⟨aW,cd,cs',rfl,rfl,⟨aw,eR⟩,l6,mG,mH⟩,.hv _⟩
  · obtain ⟨info,d,g1,g2,g3,-⟩:=aP.parts aM
    obtain ⟨mq,c3,ef,di,dL,-⟩:=aP.parts cV;obtain ⟨jL,kj,cD,dh,fa,eD,jM,jl⟩:=aP.parts bI;have ax:d = .slice e:=by rw [br] at g3;cases d<;>simp [ev] at g3;rw [g3]
    subst ax;have cl:∀ k,c3 ≠ .int k:=fun k e'=>by subst e';exact dn k dL.symm
    subst c8;obtain ⟨us,ic,pe,jN,j6,sy,sA,sB⟩:=qd (sz':=1) fh (.inr rfl);cases ic with
    | cons u _ vk _ hu vS=>
    cases vS;have ma:∀ x∈[u],x.oneCell'=true:=by intro x ab;rw [mem_singleton] at ab;subst ab;exact EW hu dJ
    have sR:flat [u]=[u]:=sQ ma;have eH:vs.size=cap:=by rw [← length_toList];exact fw
    have cO:=B' (ty:=o.type) (P:=P) w g2 di cl cD b n cap vs c4 (xv:=fU) (m:=1) (news:=[u]) (jN P) (by rw [eD,U,← sR];exact j6 P w (fun _ _ _=>rfl)) ma ag (by rw [eD,U,eH];simp;omega);rw [eD,U,mul_one] at cO;have hc:bG w p (vs.toList.take n++[u]++vs.toList.drop (n+[u].length)) (cs.take n++[v]++cs.drop (n+1)):=bG.append (bG.append hA (.cons _ _ _ _ hu .nil)) (dd.drop _);have ch:(aT s L) b=some (.box e cs):=ar.get I
    obtain ⟨dG,j',iy⟩:=vj aI.wf ch (vs':=(vs.toList.take n++[u]++vs.toList.drop (n+[u].length)).toArray) (cs':=cs.take n++[v]++cs.drop (n+1)) (fun zO bt=>by
      rw [c4] at bt;cases bt
      simp only [size_toArray,length_append,length_take,length_drop,length_singleton,fw]
      rw [eH];omega) (by simpa using hc) _ C
    obtain ⟨f1,f2⟩:=ar.put (.box e (cs.take n++[v]++cs.drop (n+1))) I;refine ⟨_,_,_,p,_,eI _ _ cO,dG,j',iy,⟨b,cap,cs.take n++[v]++cs.drop (n+1),rfl,f1,f2,?_,by omega,?_⟩,.hv _⟩
    · simp only [length_append,length_take,length_drop,length_singleton,cv];omega
    · have:(cs.take n++[v]).length=n+1:=by simp [cv];omega
      rw [List.take_append_of_le_length ag,take_of_length_le ag]
theorem aa.CK (aP:bQ P Γ) (I:Ok s L) {t bH e:TypeId} {x y:Operand} {it ct aG:bM} {dR bU:Nat} {v:af} {dj:bL} (aw:guardOf ops env o=some true) (ax:o.dst=some d) (aU:Nat.blt d N=true)
  (ah:o.op = .call { callee := .builtin .append,args := #[x,y],argTypes := #[t,bH] }) (aM:Γ.get? t=some it) (br:it.bF = .aA e) (cV:Γ.get? bH=some ct) (dn:∀ k,ct.bF ≠ .int k)
  (bI:Γ.get? e=some aG) (U:aG.size=1) (dO:Nat.beq aG.zero.cells.size aG.size=true) (ab:aJ env x=some (.aA dR [] .nil)) (ay:aJ env y=some (.aA bU [v] dj)) (c8:bU=1) (dJ:e7 v=true) (aq:1*aG.bytes≤140737488355328)
  (h:∀ aW cd cs',cs'.length=cd→1≤cd→cs'.take 1=[v]→Ok s ((.own aW,.box e cs')::L)→aa P N ops l Q ((d,eo aW 1 cd)::env) (aT s ((.own aW,.box e cs')::L))):aa P N ops (o::l) Q env (aT s L):=by
 refine aa.op aw ax aU (aZ.CK aP I ah aM br cV dn bI U dO ab ay c8 dJ aq (X:=fun _ _=>False)) ?_ (fun _ _ h=>h.elim);rintro r aj ⟨aW,cd,cs',rfl,rfl,ad,al,bd,bD⟩;exact h aW cd cs' al bd bD ad
theorem aa.CL (aP:bQ P Γ) (I:Ok s L) {t bH e:TypeId} {x y:Operand} {it ct aG:bM} {b n cap bU:Nat} {cs:List af} {v:af} {dj:bL} (aw:guardOf ops env o=some true) (ax:o.dst=some d) (aU:Nat.blt d N=true)
  (ah:o.op = .call { callee := .builtin .append,args := #[x,y],argTypes := #[t,bH] }) (aM:Γ.get? t=some it) (br:it.bF = .aA e) (cV:Γ.get? bH=some ct) (dn:∀ k,ct.bF ≠ .int k)
  (bI:Γ.get? e=some aG) (U:aG.size=1) (dO:Nat.beq aG.zero.cells.size aG.size=true) (ab:aJ env x=some (eo b n cap)) (ar:bp L (.own b) (.box e cs) R) (cv:cs.length=cap) (az:n≤cap) (iu:(cs.take n).all e7=true)
  (ay:aJ env y=some (.aA bU [v] dj)) (c8:bU=1) (dJ:e7 v=true) (aq:(n+1)*aG.bytes≤140737488355328) (ei:n+1≤9223372036854775807)
  (h:∀ aW cd cs',cs'.length=cd→n+1≤cd→cs'.take (n+1)=cs.take n++[v]→Ok s ((.own aW,.box e cs')::R)→aa P N ops l Q ((d,eo aW (n+1) cd)::env) (aT s ((.own aW,.box e cs')::R))):aa P N ops (o::l) Q env (aT s L):=by
 refine aa.op aw ax aU (aZ.CL aP I ah aM br cV dn bI U dO ab ar cv az iu ay c8 dJ aq ei (X:=fun _ _=>False)) ?_ (fun _ _ h=>h.elim);rintro r aj ⟨aW,cd,cs',rfl,rfl,ad,al,bd,bD⟩;exact h aW cd cs' al bd bD ad
theorem dw.ub {B:fL} {ro:Option Nat} {a:Act} {w:World} {p:bR} (h:dw N B ro env s a w p) {t b n cap:Nat} {T:TypeId} {cs:List af} (aM:env.get? t=some (eo b n cap)) (ar:s b=some (.box T cs)) (cv:cs.length=cap) (az:n≤cap) (hm:n≤9223372036854775807)
  (iu:(cs.take n).all e7=true):∃ bj,dw N B ro ((t,.aA 1 (cs.take n) .bb)::env) (s.del b) a w bj∧dc w p w bj∧Kept s (s.del b) w p w bj:=by
 have Fi:dw N B ro ((a.tmps.size,.any)::[]) s a w p:=h.restrict _ (fun t v av=>by
  simp only [Env.get?] at av
  split at av
  ·cases av;exact .any _
  ·cases av)
 obtain ⟨vs,U,ad,al⟩:=h.wf.obj _ _ ar;have au:b<w.heap.size:=(Array.getElem?_eq_some_iff.1 U).1;have hle:dc w p w (p.ee b True):=⟨rfl,rfl,rfl,Nat.le_refl _,fun _ _ h => .inl h,fun _ _ _=>rfl,fun _ _ h=>h⟩
 have aE:Kept s (s.del b) w p w (p.ee b True):=⟨fun _ _ _=>rfl,fun aW aq az=>by
  by_cases e:aW=b
  ·subst e;exact ao.m6 _ _
  ·rw [ao.mv _ e];exact az,fun aW o aq az aD=>by
   rcases aD with aD|⟨rfl,_⟩
   ·exact aD
   ·rw [ar] at az;cases az⟩
 have cc:dm w (p.ee b True) (s.del b):=by
  refine ⟨fun aW o aq=>?_,fun aW o aD=>by rcases aD with aD|⟨rfl,_⟩;exact h.wf.lt _ _ aD;exact au⟩;by_cases e:aW=b
  ·subst e;rw [ao.m6] at aq;cases aq
  ·rw [ao.mv _ e] at aq
   have ah:=h.wf.obj aW o aq;have e6:∀ o,p.ee b True aW o↔p aW o:=fun o=>⟨fun aD=>by rcases aD with aD|⟨e',_⟩;exact aD;exact absurd e' e,.inl⟩
   cases o with
   | box t c=>obtain ⟨us,g1,g2,g3⟩:=ah;exact ⟨us,g1,g2.mono hle,fun o aD=>g3 o ((e6 o).1 aD)⟩
   | row t sz n=>obtain ⟨cur,g1,g2,g3,g4⟩:=ah;exact ⟨cur,g1,g2,g3,fun o=>(e6 o).trans (g4 o)⟩
   | map es=>obtain ⟨cN,c,g1,g2,g3⟩:=ah;exact ⟨cN,c,g1,⟨g2.1.mono hle,g2.2.mono hle⟩,g3⟩
   | k3 es it l c=>exact ah.p7 hle C C
   | tick m=>exact ah
   | loop r env=>exact ⟨ah.1,fun t v h=>(ah.2 t v h).mono hle⟩
 have aI:=h.step hle aE cc;refine ⟨_,⟨aI.size,fun bH v av=>?_,aI.wf,aI.defs,aI.round,aI.base⟩,hle,aE⟩;simp only [Env.get?] at av;split at av
 ·rename_i he
  have:=eq_of_beq_eq_true he;subst this;cases av;have aF:=h.env t _ aM;generalize a.tmps.getD t undef=dP at aF;cases aF;have hA:=ad.take n;have vU:=qb hA iu;have kh:=sQ vU;refine .aA b 0 n cap 1 (vs.toList.take n) (cs.take n) .bb a' xk ?_ (hA.mono hle) (fun v av=>by rw [zN (vU v av)];rfl) hm az (fun h=>by cases h) (fun b h=>by cases h);rw [kh];intro i v aQ;refine ⟨.inr ⟨rfl,trivial⟩,?_⟩;rw [zero_add,jB U];rw [getElem?_take] at aQ;split at aQ
  ·simpa using aQ
  ·cases aQ
 ·exact aI.env bH v av
theorem ae.ub {c:Code} (I:Ok s L) (t b:Nat) {n cap:Nat} {T:TypeId} {cs:List af} (aM:env.get? t=some (eo b n cap)) (ar:bp L (.own b) (.box T cs) R) (cv:cs.length=cap) (az:n≤cap) (hm:n≤9223372036854775807) (iu:(cs.take n).all e7=true)
  (h:Ok s R→ae P N c Q ((t,.aA 1 (cs.take n) .bb)::env) (aT s R)):ae P N c Q env (aT s L):=by
 obtain ⟨U,ad⟩:=ar.del I;intro sT B a w p eU aI;obtain ⟨bj,al,bd,bD⟩:=aI.ub aM (ar.get I) cv az hm iu;rw [U] at al bD;exact l0 (h ad sT B a w bj eU al) fun _ _ _ q=>q.after bd bD
end
section
open Go.Sort
variable {P:Program} {α:Type}
theorem zP {w:World} {p:bR} (k:Nat):dc w p (Sort.ahead w k) p:=⟨rfl,rfl,rfl,Nat.le_refl _,fun _ _ h=>h,fun _ _ _=>rfl,fun _ _ h=>h⟩
theorem SC {w:World} {p:bR} {s:ao} (k:Nat) (h:dm w p s):dm (Sort.ahead w k) p s:=h.grow (zP k) (fun _ _=>rfl) (fun _ _ _ h=>h) h.lt
theorem SD {w:World} {p:bR} {s:ao} (k:Nat):Kept s s w p (Sort.ahead w k) p:=⟨fun _ _ _=>rfl,fun _ _ h=>h,fun _ _ _ _ h=>h⟩
theorem FJ (w:World) (os:Array Obj) (b:Nat) (h:b<w.heap.size):(grow w os).heap[b]? = w.heap[b]?:=by
 show (w.heap++os)[b]? = _;rw [Array.getElem?_append_left h]
theorem Kd {w:World} {p:bR} (au:∀ b o,p b o→b<w.heap.size) (os:Array Obj):dc w p (grow w os) p:=
 dc.of_heap C C C (by show w.heap.size≤(w.heap++os).size;simp) (fun _ _ h=>h) au (fun b aq=>FJ w os b aq)
theorem SE {w:World} {p:bR} {s:ao} (h:dm w p s) (os:Array Obj):dm (grow w os) p s:=
 h.grow (Kd h.lt os) (fun b aq=>FJ w os b aq) (fun _ _ _ h=>h) (fun b o aD=>Nat.lt_of_lt_of_le (h.lt b o aD) (by show w.heap.size≤(w.heap++os).size;simp))
theorem SF {w:World} {p:bR} {s:ao} (os:Array Obj):Kept s s w p (grow w os) p:=⟨fun b aq _=>FJ w os b aq,fun _ _ h=>h,fun _ _ _ _ h=>h⟩
theorem Ke {w:World} {p:bR} {enc:α→Value} {encA:α→af} (ad:∀ w p a,Rel w p (enc a) (encA a)):∀ l:List α,bG w p (l.map enc) (l.map encA)
 | [] => .nil
 | a::l => .cons _ _ _ _ (ad w p a) (Ke ad l)
theorem Kf {w:World} {p:bR} {enc:α→Value} {encA:α→af} (U:∀ w p v a,Rel w p v (encA a)→v=enc a):∀ {l:List α} {vs:List Value},bG w p vs (l.map encA)→vs=l.map enc
  | [],vs,h=>by cases h;rfl
  | a::l,vs,h=>by
    cases h with
    | cons v _ vs' _ av aM=>rw [U _ _ _ _ av,Kf U aM];rfl
variable [Inhabited α]
theorem bE.sort {f:FuncId} {enc:α→Value} {encA:α→af} {le:α→α→Bool} {e:TypeId} (aC:sF P f) (U:∀ w p v a,Rel w p v (encA a)→v=enc a) (ad:∀ w p a,Rel w p (enc a) (encA a))
  (SG:∀ (rv off cap:Nat) (gp:List α) (w:World),Holds enc w rv off gp.toArray→rv<w.heap.size→gp.length<4611686018427387904→Calls P f #[.slice (some ⟨rv,off,none⟩) gp.length cap] w fun e w'=>e = .returned (.tuple #[])∧∃ n os,w'=grow (putRow enc (Sort.ahead w n) rv off (gp.mergeSort le).toArray) os)
  (b cap:Nat) (gp:List α) (rest:List af) (aB:gp.length<4611686018427387904) :
  bE P f [eo b gp.length cap] [(.own b,.box e (gp.map encA++rest))] (fun o K=>o = .ret (.cp [])∧K=[(.own b,.box e ((gp.mergeSort le).map encA++rest))]):=by
 intro s I;refine ⟨aC,fun w p vs cc eM=>?_⟩;cases eM with
 | cons v _ vs' _ av aM=>
 cases aM;cases av;obtain ⟨cur,c4,dd,eZ⟩:=cc.obj b _ (ao.gk _ _ _);have au:b<w.heap.size:=(Array.getElem?_eq_some_iff.1 c4).1;have cv:cur.toList=gp.map enc++cur.toList.drop gp.length:=by
  have al:=dd.take gp.length;rw [List.take_append_of_le_length a',take_of_length_le (l:=gp.map encA) a'] at al;rw [← Kf U al,List.take_append_drop]
 have hy:gp.length≤cur.size:=by
  have:=dd.length;rw [length_toList] at this;rw [this];simp
 have FK:Holds enc w b 0 gp.toArray:=by
  intro j aK;have FL:j<gp.length:=by simpa using aK
  refine ⟨?_,by simp [World.frozen?,c4]⟩;rw [zero_add,jB c4,← Array.getElem?_toList,cv,List.getElem?_append_left (by simpa using FL),getElem?_map,getElem?_eq_getElem FL];simp [FL]
 refine Calls.mono (SG b 0 cap gp w FK au aB) ?_;rintro CM w' ⟨rfl,k,os,rfl⟩;refine ⟨by simp,.ret (.cp []),aT s [(.own b,.box e ((gp.mergeSort le).map encA++rest))],p,.cp #[] [] .nil,⟨_,rfl,I,rfl,rfl⟩,?_⟩;have iZ:(gp.mergeSort le).length=gp.length:=List.length_mergeSort gp;have zw:putRow enc (Sort.ahead w k) b 0 (gp.mergeSort le).toArray=(Sort.ahead w k).setRow b ((gp.mergeSort le).map enc++cur.toList.drop gp.length).toArray:=by
  unfold putRow mapBlock World.setRow;congr 1;refine Array.ext_getElem? fun i=>?_
  rw [getElem?_modify,getElem?_modify];by_cases e:b=i
  ·subst e
   rw [if_pos C,if_pos C];show (w.heap[b]?).map _=(w.heap[b]?).map _;rw [c4];simp only [map_some,onCells];congr 2;refine Array.ext_getElem? fun j=>?_
   simp only [putCells,Array.getElem?_mapIdx,zero_le,true_and,zero_add,size_toArray,iZ,Nat.sub_zero];rw [← Array.getElem?_toList,← Array.getElem?_toList];by_cases aK:j<gp.length
   ·rw [List.getElem?_append_left (by rw [length_map,iZ];exact aK),getElem?_map,getElem?_eq_getElem (l:=gp.mergeSort le) (by rw [iZ];exact aK)]
    have:j<cur.toList.length:=by rw [length_toList];omega
    rw [getElem?_eq_getElem this];simp [aK,iZ]
   ·rw [List.getElem?_append_right (by rw [length_map,iZ];omega),length_map,iZ,List.getElem?_drop]
    rw [show gp.length+(j-gp.length)=j by omega];cases cur.toList[j]? with
    | none=>rfl
    | some y=>simp [aK]
  ·rw [if_neg e,if_neg e]
 rw [zw];have hc:bG w p (((gp.mergeSort le).map enc++cur.toList.drop gp.length).toArray).toList ((gp.mergeSort le).map encA++rest):=by
  refine bG.append (Ke ad _) ?_;have:=dd.drop gp.length;rwa [List.drop_append_of_le_length a',List.drop_of_length_le (l:=gp.map encA) a',List.nil_append] at this
 have dW:=SC k cc;have ch:(aT s [(.own b,.box e (gp.map encA++rest))]) b=some (.box e (gp.map encA++rest)):=ao.gk _ _ _
 obtain ⟨dG,j',iy⟩:=vj dW ch (vs':=((gp.mergeSort le).map enc++cur.toList.drop gp.length).toArray) (cs':=(gp.mergeSort le).map encA++rest) (fun zO bt=>by
  have Kg:w.heap[b]? = some (.cells zO e (0,0)):=bt
  rw [c4] at Kg;cases Kg
  simp only [size_toArray,length_append,length_map,iZ,length_drop,length_toList]
  omega) (hc.mono (zP k)) _ C
 rw [show (aT s [(.own b,.box e (gp.map encA++rest))]).set b (.box e ((gp.mergeSort le).map encA++rest))=aT s [(.own b,.box e ((gp.mergeSort le).map encA++rest))] from ao.set_set _ _ _ _] at j' iy;refine ⟨((zP k).trans dG).trans (Kd iy.lt os),((SD k).trans (zP (p:=p) k).size j').trans ((zP k).trans dG).size (SF os),SE iy os⟩
end
section
variable {P:Program} {Γ:cw} {N:Nat} {ops:Array Oper} {Q:b8→Env→ao→Prop} {env:Env} {s:ao} {l:List Oper} {o:Oper} {d:Nat} {L R dt:a8}
end
section
variable {P:Program} {Γ:cw} {N:Nat} {env:Env} {s:ao}
variable {ops:Array Oper} {l:List Oper} {Q:b8→Env→ao→Prop} {o:Oper} {d m:Nat}
end
theorem bc.de {P:Program} {Γ:cw} {N:Nat} {ops:Array Oper} {Q:b8→Env→ao→Prop} {D:Nat→Bool} {env:Env} {s:ao} (t:Nat) {b:Bool} (av:env.get? t=some (.bool b)) (he:b=true)
  (h:bc P Γ N ops Q D ((t,.bool true)::env) s):bc P Γ N ops Q D env s:=by
 subst he;refine bc.congr _ (fun x=>?_) h;show (if Nat.beq t x then _ else _)=_;split
 ·rename_i ab
  rw [← av,eq_of_beq_eq_true ab]
 ·rfl
theorem bc.cY {P:Program} {Γ:cw} {N:Nat} {ops:Array Oper} {Q:b8→Env→ao→Prop} {D:Nat→Bool} {env:Env} {s:ao} (t:Nat) {b:Bool} (av:env.get? t=some (.bool b)) (he:b=false)
  (h:bc P Γ N ops Q D ((t,.bool false)::env) s):bc P Γ N ops Q D env s:=by
 subst he;refine bc.congr _ (fun x=>?_) h;show (if Nat.beq t x then _ else _)=_;split
 ·rename_i ab
  rw [← av,eq_of_beq_eq_true ab]
 ·rfl
section
variable {P:Program} {Γ:cw} {N:Nat} {Q:b8→Env→ao→Prop} {env:Env} {s:ao} {l:List Oper} {m:Nat}
theorem bc.Fs (aP:bQ P Γ) {i:Nat} {o:Oper} {d:Nat} {t bH e:TypeId} {x y:Operand} {it ct aG:bM} {dR bU n:Nat} {xs ys:List af} {own dj:bL} (aF:eE l.toArray m (idxs 0 l)=[i]) (ah:l.toArray[i]? = some o) (ax:o.dst=some d) (aU:Nat.blt d N=true)
  (aw:c7 l env o) (b2:o.op = .call { callee := .builtin .append,args := #[x,y],argTypes := #[t,bH] }) (aM:Γ.get? t=some it) (br:it.bF = .aA e) (cV:Γ.get? bH=some ct) (dn:∀ k,ct.bF ≠ .int k)
  (bI:Γ.get? e=some aG) (ab:aJ (bZ l env o) x=some (.aA dR xs own)) (ay:aJ (bZ l env o) y=some (.aA bU ys dj)) (hT:dR=aG.size) (c8:ys=[]∨bU=aG.size)
  (dO:Nat.beq aG.zero.cells.size aG.size=true) (dJ:∀ y∈ys,j5 aG.size y=true) (aq:(xs.length+ys.length)*aG.bytes≤140737488355328) (ei:xs.length+ys.length≤9223372036854775807) (az:n=xs.length)
  {py:ao} (ar:py=rowOf s e aG.size n own) (I:qp s n own)
  (h:∀ cQ,qp s (xs.length+ys.length) cQ→bc P Γ N l.toArray Q (bV (m|||2^i)) ((d,.aA aG.size (xs++ys) cQ)::env) (rowOf s e aG.size (xs.length+ys.length) cQ)):bc P Γ N l.toArray Q (bV m) env py:=by
 subst ar;subst az;refine bc.one aF ah ax aU aw (aZ.Fs aP b2 aM br cV dn bI ab ay hT c8 dO dJ aq ei C I (X:=fun _ _=>False)) ?_ (fun _ _ h=>h.elim);rintro r aj ⟨cQ,U,-,-,rfl,rfl⟩;exact h cQ U
end
theorem hd.args {P:Program} {f:FuncId} {xs ys:List af} {s:ao} {R:ey→ao→Prop} (aB:cR xs ys) (h:hd P f ys s R):hd P f xs s R:=
 ⟨h.1,fun w p vs cc aF=>h.2 w p vs cc (aB.rel aF)⟩
theorem bE.args {P:Program} {f:FuncId} {xs ys:List af} {K:a8} {acs:ey→a8→Prop} (h:cR xs ys) (k:bE P f ys K acs):bE P f xs K acs:=fun s I=>hd.args h (k s I)
theorem aR.args {P:Program} {f:FuncId} {xs ys:List af} {v:af} (h:cR xs ys) (k:aR P f ys v):aR P f xs v:=fun s=>hd.args h (k s)
theorem nO {Γ:cw} {env:Env} {s:ao} {a b:Nat} {t T:TypeId} {i:bM} {cs:List af} {v:af} (he:env.get? a=some (.ptr b 0)) (aQ:Γ.get? t=some i) (ar:s b=some (.box T cs)) (aB:hI i cs 0=some v) :
  nJ Γ env s [.cell a t]=some v:=by simp [nJ,vy,zt,he,aQ,ar,aB]
theorem vV {Γ:cw} {env:Env} {s:ao} {a b c:Nat} {t T:TypeId} {i:bM} {cs:List af} {v u:af} (he:env.get? a=some (.ptr b 0)) (aQ:Γ.get? t=some i) (ar:s b=some (.box T cs)) (aB:hI i cs 0=some v) (aC:env.get? c=some u) :
  nJ Γ env s [.cell a t,.tmp c]=some (.cp [v,u]):=by simp [nJ,vy,zt,he,aQ,ar,aB,aC]
theorem aa.h7 {P:Program} {N:Nat} {ops:Array Oper} {Q:b8→Env→ao→Prop} {env:Env} {s:ao} {l:List Oper} {L:a8} (I:Ok s L) (e:TypeId) (sz n:Nat) (h:Ok s ((.nil,.row e sz n)::L)→aa P N ops l Q env (aT s ((.nil,.row e sz n)::L))):aa P N ops l Q env (aT s L):=h ⟨trivial,I⟩
theorem ae.h7 {P:Program} {N:Nat} {Q:b8→Env→ao→Prop} {env:Env} {s:ao} {c:Code} {L:a8} (I:Ok s L) (e:TypeId) (sz n:Nat) (h:Ok s ((.nil,.row e sz n)::L)→ae P N c Q env (aT s ((.nil,.row e sz n)::L))):ae P N c Q env (aT s L):=h ⟨trivial,I⟩
def Kh (P:Program) {α:Type} (bK:α→af) (l:Nat) (Go:List α→a8→Prop) (fA:a8→Prop) (fI:af→a8→Prop):Prop:=
 ∀ x rem K,Go (x::rem) K→dp P (lE l) [bK x] K (fun o aO=>(o = .ret (.bool true)∧Go rem aO)∨(o = .ret (.bool false)∧fA aO)∨∃ v,o = .panic v∧fI v aO)
def xP (P:Program) (f:FuncId) (first cap:List af) (mI:a8) {α:Type} (bK:α→af) (xs:List α):Prop:=
 ∀ (l:Nat) (Go:List α→a8→Prop) (fA:a8→Prop) (fI:af→a8→Prop),Kh P bK l Go fA fI→∀ K,Go xs K →
  bE P f (first++([lE l]++cap)) (mI++K) (fun o aO=>(o = .ret (.cp [])∧(Go [] aO∨fA aO))∨∃ v,o = .panic v∧fI v aO)
theorem aH.dq:∀ L:a8,aH L L []
 | [] => .nil
 | (_,_)::L => .cons .here (aH.dq L)
theorem aH.there {L K R:a8} {e:bL×dC} (h:aH L K R):aH (e::L) K (e::R):=by
 induction h with
 | nil=>exact .nil
 | cons h t a1=>exact .cons (.there h) a1
theorem aH.app {L K R aO dt:a8} (h:aH L K R) (eT:aH R aO dt):aH L (K++aO) dt:=by
 induction h with
 | nil=>exact eT
 | cons h t a1=>exact .cons h (a1 eT)
theorem bp.app {L R:a8} {k:bL} {o:dC}:∀ (K:a8),bp L k o R→bp (K++L) k o (K++R)
 | [],h=>h
 | _::K,h => .there (bp.app K h)
theorem bp.SH {L R:a8} {k:bL} {o:dC} (h:bp L k o R) (M:a8):bp (L++M) k o (R++M):=by
 induction h with
 | here=>exact .here
 | there h a1=>exact .there a1
theorem aH.js {L K dt R:a8} (h:aH L K dt):aH (L++R) K (dt++R):=by
 induction h with
 | nil=>exact .nil
 | cons h t a1=>exact .cons (h.SH _) a1
def At (s:ao) (acg:a8→Prop) (aj:ao):Prop:=∃ L K R,aj=aT s L∧Ok s L∧aH L K R∧acg K
theorem At.mk {s:ao} {acg:a8→Prop} {L R:a8} (K:a8) (I:Ok s L) (ar:aH L K R) (an:acg K):At s acg (aT s L):=⟨L,K,R,rfl,I,ar,an⟩
theorem hL.less {P:Program} {fv:af} {args:List af} {s:ao} {R dt:ey→ao→Prop} (h:hL P fv args s R) (aF:∀ o aj,R o aj→∃ eG,ao.Sub eG aj∧dt o eG):hL P fv args s dt:=by
 intro w p v vs cc av eH;refine (h w p v vs cc av eH).mono ?_;rintro e w' ⟨o,aj,bj,U,ad,al,bd,bD⟩;obtain ⟨eG,cD,dh⟩:=aF o aj ad;exact ⟨o,eG,bj,U,dh,al,bd.sub cD,bD.sub cD⟩
section
variable {P:Program} {N:Nat} {Q:b8→Env→ao→Prop} {env:Env} {s:ao} {L R:a8}
theorem ae.FM {α:Type} {bK:α→af} {xs:List α} {t:Tmp} {g:Operand} {ha body:Code} {f:FuncId} {first cap:List af} {mI:a8} (I:Ok s L) (aw:aJ env g=some (.func f first cap)) (aU:t<N)
  (nP:xP P f first cap mI bK xs) (ar:aH L mI R) (acg:List α→a8→Prop) (J:Code→a8→Prop) (sU:af→a8→Prop) (bt:acg xs R)
  (sj:∀ s x rem K,acg (x::rem) K→Ok s K→ae P N ha (b8.andThen (ae P N body (Cq (At s (acg rem)) (fun j=>At s (J j)) (fun v=>At s (sU v)))) (fun _ _ _=>False)) ((t,bK x)::env) (aT s K))
  (az:∀ K,acg [] K→Ok s K→Q .normal env (aT s K))
  (aK:∀ j K,J j K→Ok s K→ae P N j Q env (aT s K))
  (ab:∀ v K,sU v K→Ok s K→Q (.panic v) env (aT s K)):ae P N (.rangeFunc g #[t] ha body) Q env (aT s L):=by
 refine ae.JQ aw (by intro bH cV;simp at cV;subst cV;exact aU) fun l r aB FN=>?_
 have FO:Ok s ((.own l,.loop r env)::L):=⟨aB,I⟩;have oG:Kh P bK l (fun rem K=>∃ aO,K=(.own l,.loop r env)::aO∧acg rem aO) (fun K=>∃ j aO,K=(.own l,.loop (qo r j) env)::aO∧J j aO) (fun v K=>∃ aO,K=(.own l,.loop (busy r) env)::aO∧sU v aO):=by
  rintro x rem _ ⟨K,rfl,an⟩ aj zQ;refine (FN [bK x] _ (At aj (acg rem)) (fun j=>At aj (J j)) (fun v=>At aj (sU v)) (ao.gk _ _ _) C ?_).less ?_
  ·have:=ao.zh (aT aj K) l (.loop r env) zQ.1
   show ae P N ha _ _ (((aT aj K).set l (.loop r env)).del l);rw [this];exact sj aj x rem K an zQ.2
  ·have key:∀ {L K R:a8} {o:dC},aT aj L l=none→Ok aj L→aH L K R→ao.Sub (aT aj ((.own l,o)::K)) ((aT aj L).set l o)∧Ok aj ((.own l,o)::K):=by
    intro L K R o U ad al;exact (aH.cons bp.here al).sub (L:=(.own l,o)::L) ⟨U,ad⟩
   rintro o eG (⟨rfl,dH,U,rfl,L,aO,R,rfl,ad,bd,al⟩|⟨rfl,j,dH,U,rfl,L,aO,R,rfl,ad,bd,al⟩|⟨v,dH,rfl,U,rfl,L,aO,R,rfl,ad,bd,al⟩)
   ·obtain ⟨cD,dh⟩:=key U ad bd (o := .loop r env)
    exact ⟨_,cD,(.own l,.loop r env)::aO,rfl,dh,.inl ⟨rfl,aO,rfl,al⟩⟩
   ·obtain ⟨cD,dh⟩:=key U ad bd (o := .loop (qo r j) env)
    exact ⟨_,cD,(.own l,.loop (qo r j) env)::aO,rfl,dh,.inr (.inl ⟨rfl,j,aO,rfl,al⟩)⟩
   ·obtain ⟨cD,dh⟩:=key U ad bd (o := .loop (busy r) env)
    exact ⟨_,cD,(.own l,.loop (busy r) env)::aO,rfl,dh,.inr (.inr ⟨v,rfl,aO,rfl,al⟩)⟩
 have cZ:=(nP l _ _ _ oG _ ⟨R,rfl,bt⟩).at FO ((ar.there (e:=(.own l,.loop r env))).app (aH.dq _));refine cZ.mono ?_;rintro o eG ⟨M,rfl,iN,aO,rfl,h⟩;rw [append_nil] at iN ⊢;rcases h with ⟨rfl,⟨mc,rfl,h⟩|⟨j,mc,rfl,h⟩⟩|⟨v,rfl,mc,rfl,h⟩
 ·exact .inl ⟨aT s mc,iN.1,rfl,az mc h iN.2⟩
 ·exact .inr ⟨j,aT s mc,iN.1,rfl,aK j mc h iN.2⟩
 ·exact ⟨aT s mc,_,iN.1,rfl,ab v mc h iN.2⟩
end
section
variable {P:Program} {Γ:cw} {N:Nat} {l:List Oper} {Q:b8→Env→ao→Prop} {env:Env} {s:ao} {m d:Nat} {o:Oper} {L K R:a8} {acs:ey→a8→Prop}
theorem bc.b3 (i:Nat) {f:FuncId} {fN:Array Operand} {c6:Array TypeId} {xs:List af} (aF:eE l.toArray m (idxs 0 l)=[i]) (ah:l.toArray[i]? = some o) (ax:o.dst=some d) (aU:Nat.blt d N=true)
  (aw:c7 l env o) (b2:o.op = .call { callee := .value (.func f),args:=fN,argTypes:=c6 }) (a7:fM (bZ l env o) fN.toList=some xs) (h:bE P f xs K acs) (I:Ok s L) (ar:aH L K R)
  (aE:∀ x aO,acs (.ret x) aO→Ok s (aO++R)→bc P Γ N l.toArray Q (bV (m|||2^i)) ((d,x)::env) (aT s (aO++R))) (ab:∀ x aO,acs (.panic x) aO→Ok s (aO++R)→Q (.panic x) [] (aT s (aO++R))):bc P Γ N l.toArray Q (bV m) env (aT s L):=
 bm.b3 aF ah ax aU aw b2 a7 h I ar (fun _ _ _ _ => .inl trivial) aE ab
theorem bm.SI {J:ao→Prop} (i:Nat) (aP:bQ P Γ) (cy:J s) {t:TypeId} {x:Operand} {dX:bM} {b off:Nat} {v:af} (aF:ix l.toArray m i=true) (ah:l.toArray[i]? = some o) (ax:o.dst=some d) (aU:Nat.blt d N=true)
  (aw:c7 l env o) (b2:o.op = .load t x) (aM:Γ.get? t=some dX) (ab:aJ (bZ l env o) x=some (.ptr b off)) (ar:∀ s,J s→∃ T cs,s b=some (.box T cs)∧hI dX cs off=some v)
  (h:bm J P Γ N l.toArray Q (bV (m|||2^i)) ((d,v)::env) s):bm J P Γ N l.toArray Q (bV m) env s:=
 bm.rm cy aF ah ax aU aw (fun s hz=>by obtain ⟨T,cs,U,ad⟩:=ar s hz;exact aZ.tM aP b2 aM ab U ad) h
end
section
variable {P:Program} {N:Nat} {Q:b8→Env→ao→Prop} {env:Env} {s:ao} {L:a8}
def CN {σ:Type} (s:ao) (E:σ→Env) (K:σ→a8) (acg:σ→Prop) (Q:b8→Env→ao→Prop):b8→Env→ao→Prop
 | .normal,eP,aj=>∃ y nM dt,acg y∧Env.Sub (E y) eP∧aj=aT s nM∧Ok s nM∧aH nM (K y) dt
 | e,eP,aj=>Q e eP aj
theorem CN.mk {σ:Type} {E:σ→Env} {K:σ→a8} {acg:σ→Prop} (y:σ) {dt:a8} (I:Ok s L) (an:acg y) (eJ:Env.Sub (E y) env) (ch:aH L (K y) dt):CN s E K acg Q .normal env (aT s L):=⟨y,L,dt,an,eJ,rfl,I,ch⟩
theorem ae.SJ {σ:Type} {x y:Code} {om:b8→Env→ao→Prop} (E:σ→Env) (K:σ→a8) (acg:σ→Prop) (vM:ae P N x (CN s E K acg om) env (aT s L)) (vN:∀ z,acg z→Ok s (K z)→ae P N y Q (E z) (aT s (K z))) :
  ae P N x (b8.andThen (ae P N y Q) om) env (aT s L):=by
 refine vM.mono ?_;intro e eP aj h;cases e with
 | normal=>
  obtain ⟨z,nM,dt,g1,g2,rfl,g3,g4⟩:=h;obtain ⟨cD,dh⟩:=g4.sub g3;exact ae.sub _ g2 (ae.drop _ cD (vN z g1 dh))
 | exit id=>exact h
 | ret=>exact h
 | panic v=>exact h
end
section
variable {P:Program} {N:Nat} {ops:Array Oper} {Q:b8→Env→ao→Prop} {env:Env} {s:ao} {l:List Oper} {o:Oper} {d:Nat}
theorem aZ.rem {t yt:TypeId} {x y:Operand} {k:IntKind} {a b r:Int} (ah:o.op = .binOp .rem t x y yt) (ab:aJ env x=some (.int k a)) (ay:aJ env y=some (.int k b)) (aq:b≠0) (aF:a.tmod b=r) :
  aZ P N o env s (fun x aj=>x = .int k r∧aj=s) (fun _ _=>False):=by
 refine aZ.m3 i' fun ro B c' w p aI=>?_
 have U:=aI.aJ ab;have ad:=aI.aJ ay;generalize ew:c'.eval x=dP at U;generalize fb:c'.eval y=fU at ad;cases U;cases ad;refine tP (v := .int k r) ah ?_ ?_ (.int _ _)
 ·rw [ew,fb];unfold eqGuard;simp
 ·rw [ew,fb]
  simp only [binOp,ne_eq,not_true_eq_false,if_false,Op.intDiv,aq,aF];rfl
theorem aa.rem {t yt:TypeId} {x y:Operand} {k:IntKind} {a b r:Int} (aw:guardOf ops env o=some true) (ax:o.dst=some d) (aU:Nat.blt d N=true) (ah:o.op = .binOp .rem t x y yt) (ab:aJ env x=some (.int k a)) (ay:aJ env y=some (.int k b)) (aq:b≠0) (aF:a.tmod b=r)
  (h:aa P N ops l Q ((d,.int k r)::env) s):aa P N ops (o::l) Q env s:=
 aa.op aw ax aU (aZ.rem ah ab ay aq aF) (fun x aj ⟨U,ad⟩=>by subst U;subst ad;exact h) (fun _ _ h=>h.elim)
end
theorem FP {P:Program} {cs:List Frame} (T:List Deferred):∀ (cb:List Nat) (hb:Frame) (w:World),hb.mode ≠ .run→hb.defers=marksOf cb++T →
  (∀ d∈cb,w.heap[d]? = some (.deferred (some [])))→cb.Nodup→Steps P (lone hb cs w) (lone { hb with defers:=T } cs (hn w cb)):=by
 intro cb
 induction cb with
 | nil=>
  intro hb w _ ax _ _;have:({ hb with defers:=T }:Frame)=hb:=by cases hb;simp_all [marksOf]
  rw [this];exact .refl P _
 | cons d cb a1=>
  intro hb w hm ax aq az;have mZ:w.heap[d]? = some (.deferred (some [])):=aq d (mem_cons_self ..);have aM:(Instr.takeDeferred d).run P w = .ok [] { w with heap:=w.heap.setIfInBounds d (.deferred none) }:=by
   unfold Instr.takeDeferred;simp only [Sem.run_bind,getObj,setObj,Sem.run,mZ,Result.andThen];rfl
  have U:step P (lone hb cs w) = .next (lone { hb with defers:=marksOf cb++T } cs { w with heap:=w.heap.setIfInBounds d (.deferred none) }):=by
   refine step_lone_go ?_;cases u4:hb.mode with
   | run=>exact absurd u4 hm
   | returning=>simp [stepG,unwind,u4,ax,marksOf,Sem.runT_eq,aM]
   | panicking chain=>simp [stepG,unwind,u4,ax,marksOf,Sem.runT_eq,aM]
  have eF:=List.nodup_cons.1 az;refine .head U (a1 { hb with defers:=marksOf cb++T } _ hm C ?_ eF.2);intro c3 cl;have cP:d≠c3:=fun e=>eF.1 (e ▸ cl)
  simp only [Array.getElem?_setIfInBounds,cP,if_false];exact aq c3 (mem_cons_of_mem _ cl)
def SK (P:Program) (fn:Func) (R:Ending→World→Prop) (T:List Deferred):gU→Act→World→Prop
 | .normal,a,w | .ret,a,w=>∃ cb,a.defers=marksOf cb++T∧cb.Nodup∧(∀ d∈cb,w.heap[d]? = some (.deferred (some [])))∧Leaves P fn a.tmps R T .returning (hn w cb)
 | .panic dB,a,w=>∃ cb,a.defers=marksOf cb++T∧cb.Nodup∧(∀ d∈cb,w.heap[d]? = some (.deferred (some [])))∧Leaves P fn a.tmps R T (.panicking dB) (hn w cb)
 | .exit _,_,_=>False
theorem Ki {P:Program} {f:FuncId} {fn:Func} {CO fp rest:Code} {args:Array Value} {w:World} {R:Ending→World→Prop} {T:List Deferred}
  (a6:P.funcs[f]? = some fn) (aq:fn.body=some (.seq CO (.seq fp rest)))
  (h:CO.wp P (fun e a w=>e = .normal∧fp.wp P (fun e a w=>e = .normal∧∀ b:Frame,b.roundOf=none→b.fn=f→jK P b rest (SK P fn R T) a w) a w) { tmps:=args++Array.replicate (fn.ntmps-args.size) undef,defers:=[] } w) :
  Calls P f args w R:=by
 intro cs
 let b:Frame:={ (default:Frame) with fn:=f,kind := .normal,roundOf:=none }
 have si:Frame.enter P f args .normal =
   b.at { tmps:=args++Array.replicate (fn.ntmps-args.size) undef,defers:=[] } [.code (.seq CO (.seq fp rest))]:=by
  simp [Frame.enter,Frame.at,a6,aq,b]
 obtain ⟨jA,a0,lM,⟨rfl,U⟩,CP⟩:=h b [.code (.seq fp rest)] cs;obtain ⟨cg,dW,dG,⟨rfl,ad⟩,s1⟩:=U b [.code rest] cs;have SL:Steps P (lone (b.at { tmps:=args++Array.replicate (fn.ntmps-args.size) undef,defers:=[] } [.code CO,.code (.seq fp rest)]) cs w) (lone (b.at a0 [.code (.seq fp rest)]) cs lM):=CP;have SM:Steps P (lone (b.at a0 [.code fp,.code rest]) cs lM) (lone (b.at dW [.code rest]) cs dG):=s1;have pc:Steps P (lone (Frame.enter P f args .normal) cs w) (lone (b.atR dW [.code rest]) cs dG):=by
  rw [si,Frame.atR_of_none C];exact .head step_seq (SL.trans (.head step_seq SM))
 obtain ⟨e,c',w',bq,fT⟩:=ad b rfl rfl [] cs;cases e with
 | normal=>
  obtain ⟨cb,ax,az,k1,bN⟩:=bq;have ar:=Steps.trans (Steps.trans pc fT) (Steps.trans (.one (stepR_end C)) (FP T cb { b.atR c' [] with mode := .returning } w' a' ax k1 az));obtain ⟨e',l1,zR,dV,hz,eU,aB⟩:=leaves_steps T .returning _ { b.atR c' [] with mode := .returning,defers:=T } cs rfl rfl rfl a6 rfl bN;exact ⟨e',l1,zR,dV,Comes.of_steps ar hz,eU,aB⟩
 | ret=>
  obtain ⟨cb,ax,az,k1,bN⟩:=bq;obtain ⟨k₁,ar⟩:=fT;have ar:=Steps.trans (Steps.trans pc ar) (Steps.trans (.one (stepR_ret C)) (FP T cb { b.atR c' (.code .ret::k₁) with mode := .returning } w' a' ax k1 az));obtain ⟨e',l1,zR,dV,hz,eU,aB⟩:=leaves_steps T .returning _ { b.atR c' (.code .ret::k₁) with mode := .returning,defers:=T } cs rfl rfl rfl a6 rfl bN;exact ⟨e',l1,zR,dV,Comes.of_steps ar hz,eU,aB⟩
 | panic dB=>
  obtain ⟨cb,ax,az,k1,bN⟩:=bq;obtain ⟨k₁,ar⟩:=fT;have ar:=Steps.trans (Steps.trans pc ar) (FP T cb { b.atR c' k₁ with mode := .panicking dB } w' a' ax k1 az);obtain ⟨e',l1,zR,dV,hz,eU,aB⟩:=leaves_steps T (.panicking dB) _ { b.atR c' k₁ with mode := .panicking dB,defers:=T } cs rfl rfl rfl a6 rfl bN;exact ⟨e',l1,zR,dV,Comes.of_steps ar hz,eU,aB⟩
 | exit id=>exact bq.elim
section
variable {P:Program} {Γ:cw} {N:Nat} {l:List Oper} {Q:b8→Env→ao→Prop} {env:Env} {s:ao} {m d:Nat} {o:Oper} {L K R:a8} {acs:ey→a8→Prop}
theorem bc.jr (i:Nat) (aP:bQ P Γ) (I:Ok s L) {t dQ eV:TypeId} {x y:Operand} {ok:Bool} {it gG aG:bM} {mb:Nat} {es:List (af×af)} {k z:af} {r:Option af} (aF:eE l.toArray m (idxs 0 l)=[i]) (ah:l.toArray[i]? = some o) (ax:o.dst=some d) (aU:Nat.blt d N=true)
  (aw:c7 l env o) (b2:o.op = .lookup t x y ok) (aM:Γ.get? t=some it) (br:it.bF = .map dQ eV) (jk:Γ.get? dQ=some gG) (bI:Γ.get? eV=some aG) (ab:aJ (bZ l env o) x=some (.map mb)) (ay:aJ (bZ l env o) y=some k) (ar:bp L (.own mb) (.map es) R)
  (a6:j3 gG.bF k=true) (jj:iV es k=some r) (bO:hx aG.zero=some z) (h:bc P Γ N l.toArray Q (bV (m|||2^i)) ((d,lB ok z r)::env) (aT s L)):bc P Γ N l.toArray Q (bV m) env (aT s L):=
 bc.one aF ah ax aU aw (aZ.jr aP I b2 aM br jk bI ab ay ar a6 jj bO (X:=fun _ _=>False)) (fun x aj ⟨U,ad⟩=>by subst U;subst ad;exact h) (fun _ _ h=>h.elim)
theorem bc.gH (i:Nat) {g:Operand} {fv:af} {fN:Array Operand} {c6:Array TypeId} {xs:List af} (aF:eE l.toArray m (idxs 0 l)=[i]) (ah:l.toArray[i]? = some o) (ax:o.dst=some d) (aU:Nat.blt d N=true)
  (aw:c7 l env o) (b2:o.op = .call { callee := .value g,args:=fN,argTypes:=c6 }) (av:aJ (bZ l env o) g=some fv) (a7:fM (bZ l env o) fN.toList=some xs) (h:dp P fv xs K acs) (I:Ok s L) (ar:aH L K R)
  (aE:∀ x aO,acs (.ret x) aO→Ok s (aO++R)→bc P Γ N l.toArray Q (bV (m|||2^i)) ((d,x)::env) (aT s (aO++R))) (ab:∀ x aO,acs (.panic x) aO→Ok s (aO++R)→Q (.panic x) [] (aT s (aO++R))):bc P Γ N l.toArray Q (bV m) env (aT s L):=
 bm.gH aF ah ax aU aw b2 av a7 h I ar (fun _ _ _ _ => .inl trivial) aE ab
end
section
variable {P:Program} {N:Nat} {ops:Array Oper} {Q:b8→Env→ao→Prop} {env:Env} {s:ao} {l:List Oper} {L R:a8}
theorem fE.ub {is:List Nat} (t b:Nat) {n cap:Nat} {T:TypeId} {cs:List af} (aM:env.get? t=some (eo b n cap)) (ar:s b=some (.box T cs)) (cv:cs.length=cap) (az:n≤cap) (hm:n≤9223372036854775807) (iu:(cs.take n).all e7=true)
  (h:fE P N ops is Q ((t,.aA 1 (cs.take n) .bb)::env) (s.del b)):fE P N ops is Q env s:=by
 intro ro B a w p aI;obtain ⟨bj,hJ,hle,aE⟩:=aI.ub aM ar cv az hm iu;exact fE.after hle aE h hJ
theorem aa.ub (I:Ok s L) (t b:Nat) {n cap:Nat} {T:TypeId} {cs:List af} (aM:env.get? t=some (eo b n cap)) (ar:bp L (.own b) (.box T cs) R) (cv:cs.length=cap) (az:n≤cap) (hm:n≤9223372036854775807) (iu:(cs.take n).all e7=true)
  (h:Ok s R→aa P N ops l Q ((t,.aA 1 (cs.take n) .bb)::env) (aT s R)):aa P N ops l Q env (aT s L):=by
 obtain ⟨U,ad⟩:=ar.del I;intro k aE;refine fE.ub t b aM (ar.get I) cv az hm iu ?_;rw [U];exact h ad k aE
end
section
variable {P:Program} {Γ:cw} {N:Nat} {ops:Array Oper} {Q:b8→Env→ao→Prop} {env:Env} {s:ao} {l:List Oper} {o:Oper} {d:Nat} {L R:a8}
theorem aZ.fi (aP:bQ P Γ) {t e:TypeId} {x y:Operand} {it aG:bM} {b n cap:Nat} {k:IntKind} {i:Int} {j:Nat} (ah:o.op = .indexAddr t x y) (aM:Γ.get? t=some it) (br:it.bF = .aA e) (bI:Γ.get? e=some aG)
  (ab:aJ env x=some (eo b n cap)) (ay:aJ env y=some (.int k i)) (eK:i=(j:Int)) (aK:j<n):aZ P N o env s (fun x aj=>x = .ptr b (j*aG.size)∧aj=s) (fun _ _=>False):=by
 refine aZ.m3 i' fun ro B a w p aI=>?_
 obtain ⟨info,d,U,ad,al,-⟩:=aP.parts aM;obtain ⟨jL,kj,cD,dh,fa,eD,-⟩:=aP.parts bI;have ax:d = .slice e:=by rw [br] at al;cases d<;>simp [ev] at al;rw [al]
 subst ax;have aF:=aI.aJ ab;have iX:=aI.aJ ay;generalize ew:a.eval x=dP at aF;generalize fb:a.eval y=fU at iX;cases iX;subst eK;cases aF;refine .same (val := .pointer (some ⟨b,j*aG.size,none⟩)) ?_ (.ptr b _);unfold execOp;rw [ah];simp only [ew,fb];refine gR ?_;have au:(0:Int)≤(j:Int)∧(j:Int)<(n:Int):=by omega
 simp [Instr.indexAt,asIntOf,run_underlying ad,au.2,sizeOf,typeInfo,cD,eD,k5];intro aV;omega
theorem FQ {w:World} {p:bR} {sz:Nat}:∀ {xss:List (List af)} {us:List Value},bG w p us xss.flatten→(∀ cs∈xss,cs.length=sz)→∃ vs,bG w p vs (xss.map af.agg)∧flat vs=us∧∀ v∈vs,v.cells.size=sz
  | [],us,h,_=>by cases h;exact ⟨[],.nil,rfl,by simp⟩
  | cs::r,us,h,aB=>by
    rw [List.flatten_cons] at h;have cv:=aB cs mem_cons_self;have U:=h.take cs.length;have ad:=h.drop cs.length;rw [List.take_left] at U;rw [List.drop_left] at ad;obtain ⟨vs,g1,g2,g3⟩:=FQ ad fun x ab=>aB x (mem_cons_of_mem _ ab)
    refine ⟨.agg (us.take cs.length).toArray::vs,.cons _ _ _ _ (.agg _ _ U) g1,?_,fun v av=>?_⟩
    · have:flat (Value.agg (us.take cs.length).toArray::vs)=us.take cs.length++flat vs:=by simp [flat,Value.cells]
      rw [this,g2,List.take_append_drop]
    · rcases mem_cons.1 av with rfl|av
      · have:=U.length
        simp only [Value.cells,size_toArray];rw [this,cv]
      · exact g3 v av
theorem bm.fi {J:ao→Prop} (i:Nat) (aP:bQ P Γ) (cy:J s) {m:Nat} {t e:TypeId} {x y:Operand} {it aG:bM} {b n cap:Nat} {k:IntKind} {z:Int} {j:Nat} (aF:ix l.toArray m i=true) (aQ:l.toArray[i]? = some o) (ax:o.dst=some d) (aU:Nat.blt d N=true)
  (aw:c7 l env o) (ah:o.op = .indexAddr t x y) (aM:Γ.get? t=some it) (br:it.bF = .aA e) (bI:Γ.get? e=some aG)
  (ab:aJ (bZ l env o) x=some (eo b n cap)) (ay:aJ (bZ l env o) y=some (.int k z)) (eK:z=(j:Int)) (aK:j<n)
  (h:bm J P Γ N l.toArray Q (bV (m|||2^i)) ((d,.ptr b (j*aG.size))::env) s):bm J P Γ N l.toArray Q (bV m) env s:=
 bm.rm cy aF aQ ax aU aw (fun _ _=>aZ.fi aP ah aM br bI ab ay eK aK) h
end
section
variable {P:Program} {Γ:cw} {N:Nat} {ops:Array Oper} {Q:b8→Env→ao→Prop} {env:Env} {s:ao} {l:List Oper} {o:Oper} {d:Nat}
theorem aZ.qu (aP:bQ P Γ) {t e:TypeId} {x:Operand} {it:bM} {b n cap:Nat} (ah:o.op = .call { callee := .builtin .len,args := #[x],argTypes := #[t] }) (aM:Γ.get? t=some it) (br:it.bF = .aA e) (ab:aJ env x=some (eo b n cap)) :
  aZ P N o env s (fun x aj=>x = .int .i64 n∧aj=s) (fun _ _=>False):=by
 refine aZ.m3 i' fun ro B a w p aI=>?_
 obtain ⟨info,d,U,ad,al,-⟩:=aP.parts aM;have ax:d = .slice e:=by rw [br] at al;cases d<;>simp [ev] at al;rw [al]
 subst ax;have aF:=aI.aJ ab;generalize av:a.eval x=dP at aF;cases aF;refine .same (val := .int .i64 n) ?_ (.int _ _);unfold execOp;rw [ah];simp [Go.resolve,Go.invoke,Go.builtin,Sem.run_bind,Sem.run_pure,Result.andThen_ok,av,Builtin.len_,run_underlying ad,goInt]
theorem aa.qu (aP:bQ P Γ) {t e:TypeId} {x:Operand} {it:bM} {b n cap:Nat} (aw:guardOf ops env o=some true) (ax:o.dst=some d) (aU:Nat.blt d N=true) (ah:o.op = .call { callee := .builtin .len,args := #[x],argTypes := #[t] }) (aM:Γ.get? t=some it) (br:it.bF = .aA e) (ab:aJ env x=some (eo b n cap))
  (h:aa P N ops l Q ((d,.int .i64 n)::env) s):aa P N ops (o::l) Q env s:=
 aa.op aw ax aU (aZ.qu aP ah aM br ab) (fun x aj ⟨U,ad⟩=>by subst U;subst ad;exact h) (fun _ _ h=>h.elim)
theorem aZ.zS (aP:bQ P Γ) {t e:TypeId} {x y:Operand} {it aG:bM} {b n cap k:Nat} {qv:IntKind} (ah:o.op = .slice t x none (some y) none) (aM:Γ.get? t=some it) (br:it.bF = .aA e) (bI:Γ.get? e=some aG) (ab:aJ env x=some (eo b n cap)) (ay:aJ env y=some (.int qv (k:Int))) (aE:k≤cap) :
  aZ P N o env s (fun x aj=>x=eo b k cap∧aj=s) (fun _ _=>False):=by
 refine aZ.m3 i' fun ro B a w p aI=>?_
 obtain ⟨info,d,U,ad,al,-⟩:=aP.parts aM;obtain ⟨jL,kj,cD,dh,fa,eD,-⟩:=aP.parts bI;have ax:d = .slice e:=by rw [br] at al;cases d<;>simp [ev] at al;rw [al]
 subst ax;have aF:=aI.aJ ab;have fh:=aI.aJ ay;generalize ew:a.eval x=dP at aF;generalize fb:a.eval y=fU at fh;cases aF;cases fh;refine .same (val := .slice (some ⟨b,0,none⟩) k cap) ?_ (.hv _);unfold execOp;rw [ah];simp only [ew,Option.map_none,map_some,fb];refine gR ?_;have az:(0:Int)≤(k:Int):=by omega
 have aC:(k:Int)≤(cap:Int):=by omega
 have aq:(Instr.sliceBounds true n cap none (some (.int qv (k:Int))) none).run P w = .ok (0,k,cap) w:=by
  simp [Instr.sliceBounds,run_sliceBound,az,aC]
 simp only [Instr.sliceAt,Instr.slice,Sem.run_bind,run_underlying ad,Result.andThen_ok,aq,sizeOf,typeInfo,run_program,cD,Sem.run_pure,eD,Nat.sub_zero,Nat.zero_mul];by_cases bt:cap=0
 ·simp [bt]
 ·simp [bt,k5]
theorem aa.zS (aP:bQ P Γ) {t e:TypeId} {x y:Operand} {it aG:bM} {b n cap:Nat} (k:Nat) {qv:IntKind} (aw:guardOf ops env o=some true) (ax:o.dst=some d) (aU:Nat.blt d N=true) (ah:o.op = .slice t x none (some y) none) (aM:Γ.get? t=some it) (br:it.bF = .aA e) (bI:Γ.get? e=some aG)
  (ab:aJ env x=some (eo b n cap)) (ay:aJ env y=some (.int qv (k:Int))) (aE:k≤cap) (h:aa P N ops l Q ((d,eo b k cap)::env) s):aa P N ops (o::l) Q env s:=
 aa.op aw ax aU (aZ.zS aP ah aM br bI ab ay aE) (fun x aj ⟨U,ad⟩=>by subst U;subst ad;exact h) (fun _ _ h=>h.elim)
theorem aa.fi (aP:bQ P Γ) {t e:TypeId} {x y:Operand} {it aG:bM} {b n cap:Nat} {k:IntKind} {i:Int} (j:Nat) (aw:guardOf ops env o=some true) (ax:o.dst=some d) (aU:Nat.blt d N=true) (ah:o.op = .indexAddr t x y) (aM:Γ.get? t=some it) (br:it.bF = .aA e) (bI:Γ.get? e=some aG)
  (ab:aJ env x=some (eo b n cap)) (ay:aJ env y=some (.int k i)) (eK:i=(j:Int)) (aK:j<n) (h:aa P N ops l Q ((d,.ptr b (j*aG.size))::env) s):aa P N ops (o::l) Q env s:=
 aa.op aw ax aU (aZ.fi aP ah aM br bI ab ay eK aK) (fun x aj ⟨U,ad⟩=>by subst U;subst ad;exact h) (fun _ _ h=>h.elim)
end
theorem SN {m n:Nat} (hm:m<2^64) (az:n<2^64):m|||n<2^64:=Nat.or_lt_two_pow hm az
theorem Kj {m n:Nat} (hm:m<2^64):m &&& n<2^64:=Nat.lt_of_le_of_lt Nat.and_le_left hm
def kO (m n:Nat):Nat:=m &&& (18446744073709551615 ^^^ n)
theorem ry (m:Nat):BitVec.ofInt 64 (m:Int)=BitVec.ofNat 64 m:=by
 apply BitVec.eq_of_toNat_eq;rw [BitVec.toNat_ofInt,BitVec.toNat_ofNat];omega
theorem wrap64 {m:Nat} (h:m<2^64):IntKind.wrap .u64 (m:Int)=(m:Int):=by
 unfold IntKind.wrap;simp [IntKind.bits,IntKind.signed];omega
section
variable {P:Program} {N:Nat} {ops:Array Oper} {Q:b8→Env→ao→Prop} {env:Env} {s:ao} {l:List Oper} {o:Oper} {d:Nat}
theorem aZ.shl {t yt:TypeId} {x y:Operand} {k k':IntKind} {a b r:Int} (ah:o.op = .binOp .shl t x y yt) (ab:aJ env x=some (.int k a)) (ay:aJ env y=some (.int k' b)) (aq:0≤b) (aF:k.wrap (a*2^(min b.toNat k.bits))=r) :
  aZ P N o env s (fun x aj=>x = .int k r∧aj=s) (fun _ _=>False):=by
 refine aZ.m3 i' fun ro B c' w p aI=>?_
 have U:=aI.aJ ab;have ad:=aI.aJ ay;generalize ew:c'.eval x=dP at U;generalize fb:c'.eval y=fU at ad;cases U;cases ad;refine tP (v := .int k r) ah ?_ ?_ (.int _ _)
 ·rw [ew,fb];unfold eqGuard;simp
 ·rw [ew,fb]
  have dI:¬ b<0:=by omega
  simp only [binOp,Op.shift,dI,if_false,aF];rfl
theorem aZ.shr {t yt:TypeId} {x y:Operand} {k k':IntKind} {a b r:Int} (ah:o.op = .binOp .shr t x y yt) (ab:aJ env x=some (.int k a)) (ay:aJ env y=some (.int k' b)) (aq:0≤b) (aF:a.fdiv (2^(min b.toNat k.bits))=r) :
  aZ P N o env s (fun x aj=>x = .int k r∧aj=s) (fun _ _=>False):=by
 refine aZ.m3 i' fun ro B c' w p aI=>?_
 have U:=aI.aJ ab;have ad:=aI.aJ ay;generalize ew:c'.eval x=dP at U;generalize fb:c'.eval y=fU at ad;cases U;cases ad;refine tP (v := .int k r) ah ?_ ?_ (.int _ _)
 ·rw [ew,fb];unfold eqGuard;simp
 ·rw [ew,fb]
  have dI:¬ b<0:=by omega
  simp only [binOp,Op.shift,dI,if_false,aF];rfl
def bitsOf (op:BinOp) (k:IntKind) (a b:Int):Option Int:=match op with
 | .and=>some (k.wrap (BitVec.ofInt k.bits a &&& BitVec.ofInt k.bits b).toNat)
 | .or=>some (k.wrap (BitVec.ofInt k.bits a|||BitVec.ofInt k.bits b).toNat)
 | .xor=>some (k.wrap (BitVec.ofInt k.bits a ^^^ BitVec.ofInt k.bits b).toNat)
 | .andNot=>some (k.wrap (BitVec.ofInt k.bits a &&& ~~~(BitVec.ofInt k.bits b)).toNat)
 | _=>none
theorem aZ.bits {op:BinOp} {t yt:TypeId} {x y:Operand} {k:IntKind} {a b r:Int} (ah:o.op = .binOp op t x y yt) (ab:aJ env x=some (.int k a)) (ay:aJ env y=some (.int k b)) (aF:bitsOf op k a b=some r) :
  aZ P N o env s (fun x aj=>x = .int k r∧aj=s) (fun _ _=>False):=by
 refine aZ.m3 i' fun ro B c' w p aI=>?_
 have U:=aI.aJ ab;have ad:=aI.aJ ay;generalize ew:c'.eval x=dP at U;generalize fb:c'.eval y=fU at ad;cases U;cases ad;refine tP (v := .int k r) ah ?_ ?_ (.int _ _)
 ·rw [ew,fb];unfold eqGuard;cases op<;>first|rfl|(cases aF;done)
 ·rw [ew,fb]
  cases op<;>simp only [bitsOf] at aF<;>first|(cases aF;done)|(cases aF;simp only [binOp,ne_eq,not_true_eq_false,if_false,Op.intBits];rfl)
theorem aa.shl {t yt:TypeId} {x y:Operand} {k k':IntKind} {a b:Int} (r:Int) (aw:guardOf ops env o=some true) (ax:o.dst=some d) (aU:Nat.blt d N=true) (ah:o.op = .binOp .shl t x y yt) (ab:aJ env x=some (.int k a)) (ay:aJ env y=some (.int k' b)) (aq:0≤b) (aF:k.wrap (a*2^(min b.toNat k.bits))=r)
  (h:aa P N ops l Q ((d,.int k r)::env) s):aa P N ops (o::l) Q env s:=
 aa.op aw ax aU (aZ.shl ah ab ay aq aF) (fun x aj ⟨U,ad⟩=>by subst U;subst ad;exact h) (fun _ _ h=>h.elim)
theorem aa.shr {t yt:TypeId} {x y:Operand} {k k':IntKind} {a b:Int} (r:Int) (aw:guardOf ops env o=some true) (ax:o.dst=some d) (aU:Nat.blt d N=true) (ah:o.op = .binOp .shr t x y yt) (ab:aJ env x=some (.int k a)) (ay:aJ env y=some (.int k' b)) (aq:0≤b) (aF:a.fdiv (2^(min b.toNat k.bits))=r)
  (h:aa P N ops l Q ((d,.int k r)::env) s):aa P N ops (o::l) Q env s:=
 aa.op aw ax aU (aZ.shr ah ab ay aq aF) (fun x aj ⟨U,ad⟩=>by subst U;subst ad;exact h) (fun _ _ h=>h.elim)
theorem aa.bits {op:BinOp} {t yt:TypeId} {x y:Operand} {k:IntKind} {a b:Int} (r:Int) (aw:guardOf ops env o=some true) (ax:o.dst=some d) (aU:Nat.blt d N=true) (ah:o.op = .binOp op t x y yt) (ab:aJ env x=some (.int k a)) (ay:aJ env y=some (.int k b)) (aF:bitsOf op k a b=some r)
  (h:aa P N ops l Q ((d,.int k r)::env) s):aa P N ops (o::l) Q env s:=
 aa.op aw ax aU (aZ.bits ah ab ay aF) (fun x aj ⟨U,ad⟩=>by subst U;subst ad;exact h) (fun _ _ h=>h.elim)
end
theorem vW {m n:Nat} (hm:m<2^64) (az:n<2^64):bitsOf .or .u64 (m:Int) (n:Int)=some ((m|||n:Nat):Int):=by
 show some (IntKind.wrap .u64 ((BitVec.ofInt 64 (m:Int)|||BitVec.ofInt 64 (n:Int)).toNat:Int))=_;rw [ry,ry,BitVec.toNat_or,BitVec.toNat_ofNat,BitVec.toNat_ofNat,mod_eq_of_lt hm,mod_eq_of_lt az,wrap64 (SN hm az)]
theorem uc {m n:Nat} (hm:m<2^64) (az:n<2^64):bitsOf .and .u64 (m:Int) (n:Int)=some ((m &&& n:Nat):Int):=by
 show some (IntKind.wrap .u64 ((BitVec.ofInt 64 (m:Int) &&& BitVec.ofInt 64 (n:Int)).toNat:Int))=_;rw [ry,ry,BitVec.toNat_and,BitVec.toNat_ofNat,BitVec.toNat_ofNat,mod_eq_of_lt hm,mod_eq_of_lt az,wrap64 (Kj hm)]
theorem FR {m:Nat} (h:m<2^63):IntKind.wrap .i64 (m:Int)=(m:Int):=by
 unfold IntKind.wrap;simp [IntKind.bits,IntKind.signed];omega
theorem SO {m n:Nat} (hm:m<2^63) (az:n<2^63):bitsOf .or .i64 (m:Int) (n:Int)=some ((m|||n:Nat):Int):=by
 show some (IntKind.wrap .i64 ((BitVec.ofInt 64 (m:Int)|||BitVec.ofInt 64 (n:Int)).toNat:Int))=_;rw [ry,ry,BitVec.toNat_or,BitVec.toNat_ofNat,BitVec.toNat_ofNat,mod_eq_of_lt ag,mod_eq_of_lt ag,FR (Nat.or_lt_two_pow hm az)]
theorem zT {m n:Nat} (hm:m<2^63) (az:n<2^63):bitsOf .and .i64 (m:Int) (n:Int)=some ((m &&& n:Nat):Int):=by
 show some (IntKind.wrap .i64 ((BitVec.ofInt 64 (m:Int) &&& BitVec.ofInt 64 (n:Int)).toNat:Int))=_;rw [ry,ry,BitVec.toNat_and,BitVec.toNat_ofNat,BitVec.toNat_ofNat,mod_eq_of_lt ag,mod_eq_of_lt ag,FR (Nat.lt_of_le_of_lt Nat.and_le_left hm)]
theorem CQ {m n:Nat} (hm:m<2^64) (az:n<2^64):bitsOf .andNot .u64 (m:Int) (n:Int)=some ((kO m n:Nat):Int):=by
 show some (IntKind.wrap .u64 ((BitVec.ofInt 64 (m:Int) &&& ~~~(BitVec.ofInt 64 (n:Int))).toNat:Int))=_;rw [ry,ry];unfold kO;have h:(BitVec.ofNat 64 m &&& ~~~(BitVec.ofNat 64 n)).toNat=m &&& (18446744073709551615 ^^^ n):=by
  rw [BitVec.toNat_and,BitVec.toNat_not,BitVec.toNat_ofNat,BitVec.toNat_ofNat,mod_eq_of_lt hm,mod_eq_of_lt az];apply Nat.eq_of_testBit_eq;intro i;rw [Nat.testBit_and,Nat.testBit_and,Nat.testBit_xor];have ad:2^64-1-n=2^64-(n+1):=by omega
  rw [ad,Nat.testBit_two_pow_sub_succ az,show (18446744073709551615:Nat)=2^64-1 from rfl,testBit_two_pow_sub_one];by_cases aQ:i<64
  ·simp [aQ]
  ·have:m.testBit i=false:=Nat.testBit_lt_two_pow (Nat.lt_of_lt_of_le hm (Nat.pow_le_pow_right ag ag))
   simp [this]
 rw [h,wrap64 (Kj hm)]
theorem CR {c:Nat} (h:c<64):IntKind.wrap .u64 (1*2^(min (c:Int).toNat (IntKind.bits .u64)))=((2^c:Nat):Int):=by
 have U:min (c:Int).toNat (IntKind.bits .u64)=c:=by simp [IntKind.bits];omega
 rw [U];have ad:(1*2^c:Int)=((2^c:Nat):Int):=by push_cast;omega
 rw [ad,wrap64 (Nat.pow_lt_pow_right ag h)]
theorem sV {m c:Nat} (h:c<64):Int.fdiv (m:Int) (2^(min (c:Int).toNat (IntKind.bits .u64)))=((m >>> c:Nat):Int):=by
 have U:min (c:Int).toNat (IntKind.bits .u64)=c:=by simp [IntKind.bits];omega
 rw [U,Nat.shiftRight_eq_div_pow];have ad:(2^c:Int)=((2^c:Nat):Int):=by push_cast;rfl
 rw [ad,Int.fdiv_eq_ediv_of_nonneg _ (Int.natCast_nonneg _)];rfl
theorem ae.b4 {P:Program} {N:Nat} {Q:b8→Env→ao→Prop} {env:Env} {s:ao} {L:a8} {σ:Type} {c:Code} (gl:List Nat) {zU:Env} (aE:vQ gl env []=(zU,())) (I:Ok s L) (dB:σ→Env) (K:σ→a8) (acg:σ→Prop) (μ:σ→Nat) (nC:σ) {Fx:a8} (an:acg nC) (eJ:Env.Sub (dB nC) env) (ch:aH L (K nC) Fx)
  (round:∀ x,acg x→Ok s (K x)→ae P N c (b8.andThen (bn s (fun z=>dB z++zU) K acg (fun y=>μ y<μ x)) Q) (dB x++zU) (aT s (K x))):ae P N (.loop c) Q env (aT s L):=
 ae.xL I (fun z=>dB z++zU) K acg μ nC an (eJ.append (zH gl [] zU trivial aE)) ch round
section
variable {P:Program} {Γ:cw} {N:Nat} {ops:Array Oper} {Q:b8→Env→ao→Prop} {env:Env} {s:ao} {l:List Oper} {o:Oper} {d:Nat}
theorem aZ.arr (aP:bQ P Γ) {t e:TypeId} {x y:Operand} {it aG:bM} {k:IntKind} {len b off j:Nat} {i:Int} (ah:o.op = .indexAddr t x y) (aM:Γ.get? t=some it) (br:it.bF = .arr len e) (bI:Γ.get? e=some aG) (ab:aJ env x=some (.ptr b off)) (ay:aJ env y=some (.int k i)) (eK:i=(j:Int)) (aK:j<len) :
  aZ P N o env s (fun x aj=>x = .ptr b (off+j*aG.size)∧aj=s) (fun _ _=>False):=by
 obtain ⟨info,vX,U,ad,al,-⟩:=aP.parts aM;obtain ⟨jL,kj,cD,dh,fa,eD,-⟩:=aP.parts bI;obtain rfl:=y8 (al.trans br);refine aZ.m3 i' fun ro B a w p aI=>?_
 have U:=aI.aJ ab;have nE:=aI.aJ ay;generalize ew:a.eval x=dP at U;generalize fb:a.eval y=fU at nE;cases U;cases nE;subst eK;refine .same (val := .pointer (some ⟨b,off+j*aG.size,none⟩)) ?_ (.ptr b _);unfold execOp;rw [ah];simp only [ew,fb];refine gR ?_;simp [Instr.indexAt,asIntOf,run_underlying ad,aK,sizeOf,typeInfo,cD,eD,k5,Instr.sureAddr]
theorem aZ.lN (aP:bQ P Γ) {t e:TypeId} {x y:Operand} {it aG:bM} {k:IntKind} {len off j:Nat} {cs:List af} {i:Int} (ah:o.op = .indexAddr t x y) (aM:Γ.get? t=some it) (br:it.bF = .arr len e) (bI:Γ.get? e=some aG) (ab:aJ env x=some (.bw cs off)) (ay:aJ env y=some (.int k i)) (eK:i=(j:Int)) (aK:j<len) :
  aZ P N o env s (fun x aj=>x = .bw cs (off+j*aG.size)∧aj=s) (fun _ _=>False):=by
 obtain ⟨info,vX,U,ad,al,-⟩:=aP.parts aM;obtain ⟨jL,kj,cD,dh,fa,eD,-⟩:=aP.parts bI;obtain rfl:=y8 (al.trans br);refine aZ.m3 i' fun ro B a w p aI=>?_
 have U:=aI.aJ ab;have nE:=aI.aJ ay;generalize ew:a.eval x=dP at U;generalize fb:a.eval y=fU at nE;cases nE;subst eK;cases U with
 | bw b base o' _ vs _ cC aC aF=>
 refine .same (val := .pointer (some ⟨b,o'+j*aG.size,none⟩)) ?_ (.bw b base _ _ vs cs ag aC aF);unfold execOp;rw [ah];simp only [ew,fb];refine gR ?_;simp [Instr.indexAt,asIntOf,run_underlying ad,aK,sizeOf,typeInfo,cD,eD,k5,Instr.sureAddr]
theorem aa.arr (aP:bQ P Γ) {t e:TypeId} {x y:Operand} {it aG:bM} {k:IntKind} {len b off:Nat} {i:Int} (j:Nat) (aw:guardOf ops env o=some true) (ax:o.dst=some d) (aU:Nat.blt d N=true) (ah:o.op = .indexAddr t x y) (aM:Γ.get? t=some it) (br:it.bF = .arr len e) (bI:Γ.get? e=some aG) (ab:aJ env x=some (.ptr b off)) (ay:aJ env y=some (.int k i)) (eK:i=(j:Int)) (aK:j<len)
  (h:aa P N ops l Q ((d,.ptr b (off+j*aG.size))::env) s):aa P N ops (o::l) Q env s:=
 aa.op aw ax aU (aZ.arr aP ah aM br bI ab ay eK aK) (fun x aj ⟨U,ad⟩=>by subst U;subst ad;exact h) (fun _ _ h=>h.elim)
theorem aa.lN (aP:bQ P Γ) {t e:TypeId} {x y:Operand} {it aG:bM} {k:IntKind} {len off:Nat} {cs:List af} {i:Int} (j:Nat) (aw:guardOf ops env o=some true) (ax:o.dst=some d) (aU:Nat.blt d N=true) (ah:o.op = .indexAddr t x y) (aM:Γ.get? t=some it) (br:it.bF = .arr len e) (bI:Γ.get? e=some aG) (ab:aJ env x=some (.bw cs off)) (ay:aJ env y=some (.int k i)) (eK:i=(j:Int)) (aK:j<len)
  (h:aa P N ops l Q ((d,.bw cs (off+j*aG.size))::env) s):aa P N ops (o::l) Q env s:=
 aa.op aw ax aU (aZ.lN aP ah aM br bI ab ay eK aK) (fun x aj ⟨U,ad⟩=>by subst U;subst ad;exact h) (fun _ _ h=>h.elim)
end
end Go.cU
namespace Go.eb
def me (first i:Int):List Int→List Int→Bool
 | _,[]=>true
 | seen,c::r=>decide (c≥first)&&(decide (c<first+i)&&(!seen.contains c&&me first i (seen++[c]) r))
def nQ:Nat→List (List Int)→Bool
 | _,[]=>true
 | i,l::r=>decide (l.length≤3)&&(me 3 i [] l&&nQ (i+1) r)
def mf (g:List (List Int)):Bool:=decide (g.length≤16)&&nQ 0 g
def fq (n:Int) (l:List Int):List Int:=l.filter fun x=>x != n
def free (all:List (List Int)) (c:Int):Bool:=all.all fun l => !(l.drop 1).contains c
def pick (all:List (List Int)):List (List Int)→Option Int
 | []=>none
 | []::r=>pick all r
 | (c::_)::r=>if free all c then some c else pick all r
def total (all:List (List Int)):Nat:=(all.map List.length).sum
def merge:Nat→List (List Int)→List Int→List Int×Bool
  | 0,_,acc=>(acc,false)
  | k+1,all,acc=>match pick all all with
    | none=>(acc,all.all isEmpty)
    | some c=>merge k (all.map (fq c)) (acc++[c])
def merged (all:List (List Int)):List Int×Bool:=merge (total all+1) all []
def parents (g:List (List Int)) (c:Nat):List Int:=if c<3 then [] else g.getD (c-3) []
def iO (fB:List (List Int)):List Int→Option (List (List Int))
 | []=>some []
 | p::r=>if (fB.getD p.toNat []).isEmpty then none else (iO fB r).map fun l=>fq 0 (fB.getD p.toNat [])::l
def lists (g:List (List Int)) (fB:List (List Int)) (c:Nat):Option (List (List Int)):=(iO fB (parents g c)).map fun l=>l++[parents g c]
def order (g:List (List Int)) (fB:List (List Int)) (c:Nat):List Int:=match lists g fB c with
 | none=>[]
 | some all=>if (merged all).2 then (c:Int)::(merged all).1++[0] else []
def fB (g:List (List Int)):Nat→List (List Int)
 | 0=>[[0]]
 | k+1=>fB g k++[order g (fB g k) (k+1)]
theorem sW (g:List (List Int)):∀ k,(fB g k).length=k+1
 | 0=>rfl
 | k+1=>by rw [fB,length_append,sW g k];rfl
theorem xQ (n:Int) (l:List Int):(fq n l).length≤l.length:=List.length_filter_le ..
theorem SP (n:Int) (l:List Int):fq n (n::l)=fq n l:=by unfold fq;simp
theorem SQ (n:Int) (all:List (List Int)):total (all.map (fq n))≤total all:=by
 unfold total
 induction all with
 | nil=>exact Nat.le_refl _
 | cons l r a1=>
  have:=xQ n l;simp only [map_cons,List.sum_cons] at a1 ⊢;omega
theorem CS {n:Int} {all:List (List Int)} (h:∃ t,n::t∈all):total (all.map (fq n))<total all:=by
 obtain ⟨t,h⟩:=h
 induction all with
 | nil=>cases h
 | cons l r a1=>
  have bt:total (l::r)=l.length+total r:=rfl;have U:total ((l::r).map (fq n))=(fq n l).length+total (r.map (fq n)):=rfl;rw [bt,U];rcases mem_cons.1 h with rfl|h
  ·have ad:=xQ n t
   have al:=SQ n r;rw [SP,length_cons];omega
  ·have:=a1 h
   have:=xQ n l;omega
theorem ud {all:List (List Int)} {c:Int}:∀ {l:List (List Int)},pick all l=some c→∃ t,c::t∈l
  | [],h=>by cases h
  | []::r,h=>by
    obtain ⟨t,h⟩:=ud (l:=r) h;exact ⟨t,mem_cons_of_mem _ h⟩
  | (d::q)::r,h=>by
    rw [pick] at h;split at h
    · cases h;exact ⟨q,mem_cons_self⟩
    · obtain ⟨t,h⟩:=ud (l:=r) h
      exact ⟨t,mem_cons_of_mem _ h⟩
structure b0 where
 atom:Int
 no:Int
 yes:Int
 ms:List Int
 deriving DecidableEq,Inhabited
def qw:List Int→Bool
 | []=>true
 | [x]=>decide (x≥0)
 | x::y::r=>decide (x≥0)&&(decide (x<y)&&qw (y::r))
def ie (len i:Nat) (x:b0):Bool:=
 if x.atom = -1 then decide (x.no=0)&&(decide (x.yes=0)&&(decide (x.ms.length≤16)&&qw x.ms))
 else decide (x.atom≥0)&&(decide (x.atom<7)&&(decide (x.no>i)&&(decide (x.no<len)&&(decide (x.yes>i)&&(decide (x.yes<len)&&x.ms.isEmpty)))))
def oH (len:Nat):Nat→List b0→Bool
 | _,[]=>true
 | i,x::r=>ie len i x&&oH len (i+1) r
def gI (g:List b0):Bool:=decide (1≤g.length)&&(decide (g.length≤300)&&oH g.length 0 g)
def hN:Nat→List b0→List Int
 | _,[]=>[]
 | i,x::r=>
  let h:=hN (i+1) r
  (if x.atom≥0 then 1+max (h.getD (x.no.toNat-(i+1)) 0) (h.getD (x.yes.toNat-(i+1)) 0) else 0)::h
def lf (g:List b0):Int:=(hN 0 g).getD 0 0
def nR {α:Type} (f:Nat→α→Bool):Nat→List α→Option Nat
  | _,[]=>none
  | k,x::r=>match nR f (k+1) r with
    | some j=>some j
    | none=>if f k x then some k else none
def ec:Nat→List b0→List Int×List b0
 | _,[]=>([],[])
 | i,x::r=>
  let p:=ec (i+1) r
  let y:b0:=if x.atom≥0 then { x with no:=p.1.getD (x.no.toNat-(i+1)) 0,yes:=p.1.getD (x.yes.toNat-(i+1)) 0 } else x
  let k:Int:=match nR (fun k z=>p.1.getD k 0==((i+1+k:Nat):Int)&&z==y) 0 p.2 with
   | some k=>((i+1+k:Nat):Int)
   | none=>(i:Int)
  (k::p.1,y::p.2)
def meet (g:List b0):Nat→List Int→Int→List Int
 | 0,order,_=>order
 | k+1,order,fe=>
  if order.contains fe then order
  else
   let x:=g.getD fe.toNat default
   (if x.atom≥0 then meet g k (meet g k order x.yes) x.no else order)++[fe]
def placeOf (l:List Int) (n:Int):Int:=((l.findIdx? (· == n)).getD 0:Nat)
def small (g:List b0):List b0:=
 let p:=ec 0 g
 let order:=meet p.2 (g.length+1) [] (p.1.getD 0 0)
 order.reverse.map fun fe=>
  let x:=p.2.getD fe.toNat default
  if x.atom≥0 then { x with no:=(order.length:Int)-1-placeOf order x.no,yes:=(order.length:Int)-1-placeOf order x.yes } else x
inductive ak where
 | mk (op arg:Int) (path:List Int) (cls n:Int) (kids:List ak)
namespace ak
def op:ak→Int | .mk o _ _ _ _ _=>o
def arg:ak→Int | .mk _ a _ _ _ _=>a
def path:ak→List Int | .mk _ _ p _ _ _=>p
def cls:ak→Int | .mk _ _ _ c _ _=>c
def n:ak→Int | .mk _ _ _ _ n _=>n
def kids:ak→List ak | .mk _ _ _ _ _ k=>k
mutual
def size:ak→Nat
 | .mk _ _ p _ _ ks=>1+p.length+hB ks
def hB:List ak→Nat
 | []=>0
 | k::r=>k.size+hB r
end
theorem size_eq (x:ak):x.size=1+x.path.length+hB x.kids:=by cases x;rw [size];rfl
theorem hV:∀ {l:List ak} {x:ak},x∈l→x.size≤hB l
  | k::r,x,h=>by
    rw [hB];rcases mem_cons.1 h with rfl|h
    · omega
    · have:=hV h;omega
theorem pz:∀ l:List ak,l.length≤hB l
 | []=>Nat.le_refl _
 | k::r=>by have:=pz r;rw [hB,length_cons,size_eq];omega
instance:Inhabited ak:=⟨.mk 0 0 [] 0 0 []⟩
mutual
def same:ak→ak→Bool
 | .mk o a p c n ks,.mk o' c' bj oI n' CT=>decide (o=o')&&(decide (a=c')&&(decide (c=oI)&&(decide (n=n')&&(p==bj&&oJ ks CT))))
def oJ:List ak→List ak→Bool
 | [],[]=>true
 | x::r,y::t=>same x y&&oJ r t
 | _,_=>false
end
mutual
theorem Kk:∀ (x y:ak),same x y=true↔x=y
  | .mk o a p c n ks,.mk o' c' bj oI n' CT=>by
    rw [same];simp only [and_eq_true,decide_eq_true_eq,beq_iff_eq,Kl ks CT,ak.mk.injEq];constructor
    · rintro ⟨U,ad,al,bd,bD,gj⟩;exact ⟨U,ad,bD,al,bd,gj⟩
    · rintro ⟨U,ad,bD,al,bd,gj⟩;exact ⟨U,ad,al,bd,bD,gj⟩
theorem Kl:∀ (x y:List ak),oJ x y=true↔x=y
  | [],[]=>by simp [oJ]
  | [],y::t=>by simp [oJ]
  | x::r,[]=>by simp [oJ]
  | x::r,y::t=>by
    rw [oJ,and_eq_true,Kk x y,Kl r t,List.cons.injEq]
end
def cW (f:ak):Bool:=decide (f.op≥2)&&decide (f.op≤4)
def not (f:ak):ak := .mk 5 0 [] 0 0 [f]
def and (f g:ak):ak := .mk 6 0 [] 0 0 [f,g]
end ak
structure bx where
 ps:List (List Int)
 owner:List Int
structure iP where
 slot:Int
 n:Int
structure fJ where
 parents:List Int
 bo:List Int
 inits:List iP
 deriving Inhabited
structure hW where
 kind:Int
 gen:Int
 fact:ak
 node:Int
 deriving Inhabited
structure iQ where
 op:Int
 n:Int
 kids:List Int
 deriving Inhabited
structure bP where
 ck:List fJ
 bo:Int
 d':List Int
 methods:List hW
 nodes:List iQ
 main:Int
structure e2 where
 cls:Int
 bo:List (Int×Int)
 deriving Inhabited
def pA (op:Int):Nat:=if op=5 then 1 else if op=6∨op=7 then 2 else 0
def kr (n:Int):Bool:=decide (n ≥ -1000000000)&&decide (n≤1000000000)
def hX (w:bx) (f:ak):Bool:=
 decide (f.op≥1)&&(decide (f.op≤7)&&(decide (f.kids.length=pA f.op) &&
  (if f.cW then
   decide (f.arg≥0)&&(decide (f.arg<3)&&(decide (f.path.length≤2)&&(f.path.all (fun s=>decide (s≥0)&&decide (s<w.owner.length)) &&
    (if f.op=2 then decide (f.n=0)&&(decide (f.cls≥0)&&decide (f.cls<3+w.ps.length)) else decide (f.cls=0)&&kr f.n))))
  else decide (f.arg=0)&&(decide (f.path.length=0)&&(decide (f.cls=0)&&decide (f.n=0))))))
mutual
def e3 (w:bx) (d:Nat) (k:Int):ak→Bool×Int
 | .mk o a p c n ks=>
  if decide (k-1<0)||decide (d=0) then (false,k-1)
  else if hX w (.mk o a p c n ks) then gX w (d-1) (k-1) ks else (false,k-1)
def gX (w:bx) (d:Nat) (k:Int):List ak→Bool×Int
 | []=>(true,k)
 | x::r=>if (e3 w d k x).1 then gX w d (e3 w d k x).2 r else (false,(e3 w d k x).2)
end
def iz (w:bx) (f:ak):Bool:=(e3 w 12 24 f).1
end Go.eb
namespace Go.eb
def vY:Nat→List (List Int)→Bool
 | _,[]=>true
 | i,l::r=>me 3 i [] l&&vY (i+1) r
structure gw (w:bx):Prop where
 kt:w.ps.length≤60
 short:∀ l∈w.ps,l.length≤3
 nS:vY 0 w.ps=true
 bo:w.owner.length≤40
 own:∀ o∈w.owner,3≤o∧o<3+(w.ps.length:Int)
def rz (up:List Nat) (l:List Int):Nat:=l.foldl (fun s p=>s|||up.getD p.toNat 0) (1|||2^up.length)
def jT:List Nat→List (List Int)→List Nat
 | up,[]=>up
 | up,l::r=>jT (up++[rz up l]) r
def eN (ps:List (List Int)):List Nat:=jT [1,3,5] ps
theorem Km:∀ (ps:List (List Int)) (up:List Nat),(jT up ps).length=up.length+ps.length
 | [],up=>rfl
 | l::r,up=>by rw [jT,Km r,length_append,length_singleton,length_cons];omega
theorem sX (ps:List (List Int)):(eN ps).length=3+ps.length:=Km ps _
theorem CU:∀ {ps:List (List Int)} {i j:Nat} {l:List Int},vY i ps=true→ps[j]? = some l→me 3 ((i+j:Nat):Int) [] l=true
  | l::r,i,0,x,h,ab=>by
    rw [vY,and_eq_true] at h;have:l=x:=by simpa using ab
    subst this;exact h.1
  | l::r,i,j+1,x,h,ab=>by
    rw [vY,and_eq_true] at h;have:=CU (j:=j) h.2 (by simpa using ab);rw [show i+(j+1)=i+1+j by omega];exact this
theorem CV {i:Int}:∀ {l seen:List Int} {k:Nat} {p:Int},me 3 i seen l=true→l[k]? = some p→3≤p∧p<3+i∧p∉seen++l.take k
  | c::r,seen,0,p,h,aD=>by
    rw [me] at h;simp only [and_eq_true,decide_eq_true_eq,Bool.not_eq_true',List.contains_eq_mem,decide_eq_false_iff_not] at h;have:c=p:=by simpa using aD
    subst this;refine ⟨h.1,h.2.1,by simpa using h.2.2.1⟩
  | c::r,seen,k+1,p,h,aD=>by
    rw [me] at h;simp only [and_eq_true,decide_eq_true_eq] at h;have:=CV (k:=k) h.2.2.2 (by simpa using aD);refine ⟨this.1,this.2.1,?_⟩;rw [List.take_succ_cons];have al:=this.2.2;simpa using al
theorem FT {m n:Nat} (h:m<2^64) (k:n<2^64):m|||n<2^64:=Nat.or_lt_two_pow h k
theorem SR {up:List Nat} (h:∀ m∈up,m<2^64) (k:Nat):up.getD k 0<2^64:=by
 rw [getD_eq_getElem?_getD];cases ab:up[k]? with
 | none=>exact Nat.two_pow_pos 64
 | some x=>exact h x (mem_of_getElem? ab)
theorem FU {up:List Nat} (h:∀ m∈up,m<2^64):∀ (l:List Int) (s:Nat),s<2^64→l.foldl (fun s p=>s|||up.getD p.toNat 0) s<2^64
 | [],s,ar=>ar
 | p::r,s,ar=>FU h r _ (FT ar (SR h _))
theorem SS {up:List Nat} (h:∀ m∈up,m<2^64) (aB:up.length<64) (l:List Int):rz up l<2^64:=
 FU h l _ (FT dZ (Nat.pow_lt_pow_right ag aB))
theorem Kn:∀ (ps:List (List Int)) (up:List Nat),(∀ m∈up,m<2^64)→up.length+ps.length<64→∀ m∈jT up ps,m<2^64
  | [],up,h,_=>h
  | l::r,up,h,aB=>by
    rw [length_cons] at aB;rw [jT];refine Kn r _ (fun m hm=>?_) (by rw [length_append,length_singleton];omega);rcases mem_append.1 hm with hm|hm
    · exact h m hm
    · rw [mem_singleton] at hm;subst hm
      exact SS h ag l
theorem xR {ps:List (List Int)} (h:ps.length≤60):∀ m∈eN ps,m<2^64:=
 Kn ps _ (by intro m hm;simp at hm;rcases hm with rfl|rfl|rfl<;>decide) cG
theorem Ko (l:List Int):∀ (ps:List (List Int)) (up:List Nat),jT up (ps++[l])=jT up ps++[rz (jT up ps) l]
 | [],up=>rfl
 | x::r,up=>by rw [List.cons_append,jT,Ko l r,← jT]
theorem Kp (ps:List (List Int)) (l:List Int):eN (ps++[l])=eN ps++[rz (eN ps) l]:=Ko l ps _
def pad (u:List Nat):List Nat:=u++List.replicate (63-u.length) 0
theorem SU {u:List Nat} (h:u.length≤63):(pad u).length=63:=by unfold pad;simp;omega
theorem xS {u:List Nat} {i:Nat} {m:Nat} (h:u[i]? = some m):(pad u)[i]? = some m:=by
 unfold pad;rw [List.getElem?_append_left (List.getElem?_eq_some_iff.1 h).1];exact h
theorem SV {u:List Nat} (h:u.length<63) (v:Nat):(pad u).set u.length v=pad (u++[v]):=by
 unfold pad;rw [List.set_append_right _ _ (Nat.le_refl _),Nat.sub_self,List.append_assoc,length_append,length_singleton];congr 1;obtain ⟨n,az⟩:∃ n,63-u.length=n+1:=⟨62-u.length,by omega⟩;have ad:63-(u.length+1)=n:=by omega
 rw [az,ad,List.replicate_succ];rfl
mutual
def gx (w:bx):ak→Bool
 | .mk o a p c n ks=>hX w (.mk o a p c n ks)&&jU w ks
def jU (w:bx):List ak→Bool
 | []=>true
 | x::r=>gx w x&&jU w r
end
theorem nh (w:bx) (f:ak):gx w f=(hX w f&&jU w f.kids):=by cases f;rw [gx];rfl
theorem ka {w:bx}:∀ {l:List ak} {x:ak},jU w l=true→x∈l→gx w x=true
  | y::r,x,h,ab=>by
    rw [jU,and_eq_true] at h;rcases mem_cons.1 ab with rfl|ab
    · exact h.1
    · exact ka h.2 ab
mutual
theorem rA:∀ (f:ak) (w:bx) (d:Nat) (k:Int),(e3 w d k f).1=true→gx w f=true
  | .mk o a p c n ks,w,d,k,h=>by
    rw [e3] at h;split at h
    · cases h
    · split at h
      · rename_i az
        rw [gx,az,Bool.true_and];exact Kq ks w _ _ h
      · cases h
theorem Kq:∀ (l:List ak) (w:bx) (d:Nat) (k:Int),(gX w d k l).1=true→jU w l=true
  | [],_,_,_,_=>rfl
  | x::r,w,d,k,h=>by
    rw [gX] at h;split at h
    · rename_i ab
      rw [jU,rA x w d k ab,Kq r w d _ h];rfl
    · cases h
end
mutual
def lg:ak→Int
 | .mk o a p c n ks=>iR (if (ak.mk o a p c n ks).cW then a+1 else 0) ks
def iR (m:Int):List ak→Int
 | []=>m
 | x::r=>iR (max m (lg x)) r
end
theorem CW (f:ak):lg f=iR (if f.cW then f.arg+1 else 0) f.kids:=by cases f;rw [lg];rfl
theorem Kr:∀ (l r:List ak) (m:Int),iR m (l++r)=iR (iR m l) r
 | [],r,m=>by rw [List.nil_append,iR]
 | x::l,r,m=>by rw [List.cons_append,iR,iR,Kr l r]
theorem CX:∀ (l:List ak) (m:Int),m≤iR m l∧∀ x∈l,lg x≤iR m l
  | [],m=>⟨by rw [iR];exact Int.le_refl _,fun x h=>by cases h⟩
  | x::r,m=>by
    have a1:=CX r (max m (lg x));rw [iR];refine ⟨by have:=a1.1;omega,fun y ay=>?_⟩;rcases mem_cons.1 ay with rfl|ay
    · have:=a1.1;omega
    · exact a1.2 y ay
def hC (n:Int) (v:Int×Int):Bool:=
 if v.1=1 then kr v.2 else if v.1=2 then decide (v.2=0) else decide (v.1=3)&&(decide (v.2≥0)&&decide (v.2<n))
def nT (w:bx) (m:Nat):List Int:=((List.range w.owner.length).filter fun s=>m.testBit (w.owner.getD s 0).toNat).map fun (s:Nat)=>(s:Int)
def xT (w:bx) (c:Int):Bool:=decide (c≥3)&&decide (c<3+(w.ps.length:Int))
def zV (w:bx) (n:Int) (o:e2):Bool:=xT w o.cls&&(decide (o.bo.length=(nT w ((eN w.ps).getD o.cls.toNat 0)).length)&&o.bo.all (hC n))
def zW (w:bx) (bk:List e2):Bool:=decide (bk.length≤40)&&bk.all (zV w bk.length)
def oK (w:bx) (bk:List e2) (args:List (Int×Int)):Bool:=
 zW w bk&&(decide (args.length≥1)&&(decide (args.length≤3)&&args.all (hC bk.length)))
def oL (w:bx) (c:Int):Nat:=(eN w.ps).getD c.toNat 0
def qx (w:bx) (bk:List e2):Int×Int→List Int→Option (Int×Int)
 | v,[]=>some v
 | v,s::r=>
  let o:=bk.getD v.2.toNat default
  if v.1≠3 then none
  else if (oL w o.cls).testBit (w.owner.getD s.toNat 0).toNat then
   qx w bk (o.bo.getD (((nT w (oL w o.cls)).findIdx? (· == s)).getD 0) (0,0)) r
  else none
def vZ (w:bx) (bk:List e2) (args:List (Int×Int)) (f:ak):Bool:=
 match qx w bk (args.getD f.arg.toNat (0,0)) f.path with
 | none=>false
 | some v=>
  if f.op=2 then (if v.1=3 then (oL w (bk.getD v.2.toNat default).cls).testBit f.cls.toNat else (oL w v.1).testBit f.cls.toNat)
  else decide (v.1=1)&&((decide (v.2=f.n)==decide (f.op=4))&&decide (v.2≤f.n))
mutual
def sY (w:bx) (bk:List e2) (args:List (Int×Int)):ak→Bool
 | .mk o a p c n ks=>
  if o=1 then true
  else if o=5 then !(nU w bk args 0 ks)
  else if o=6 then nU w bk args 0 ks&&nU w bk args 1 ks
  else if o=7 then nU w bk args 0 ks||nU w bk args 1 ks
  else vZ w bk args (.mk o a p c n ks)
def nU (w:bx) (bk:List e2) (args:List (Int×Int)):Nat→List ak→Bool
 | _,[]=>false
 | 0,x::_=>sY w bk args x
 | n+1,_::r=>nU w bk args n r
end
theorem CY (w:bx) (bk:List e2) (args:List (Int×Int)):∀ (n:Nat) (l:List ak) (x:ak),l[n]? = some x→nU w bk args n l=sY w bk args x
 | 0,y::r,x,h=>by rw [nU];simp at h;rw [h]
 | n+1,y::r,x,h=>by rw [nU];exact CY w bk args n r x fD
theorem SW (w:bx) (bk:List e2) (args:List (Int×Int)) (f:ak):sY w bk args f =
  if f.op=1 then true
  else if f.op=5 then !(nU w bk args 0 f.kids)
  else if f.op=6 then nU w bk args 0 f.kids&&nU w bk args 1 f.kids
  else if f.op=7 then nU w bk args 0 f.kids||nU w bk args 1 f.kids
  else vZ w bk args f:=by cases f;rw [sY];rfl
theorem Ks:∀ (a b:List (List Int)) (up:List Nat),jT up (a++b)=jT (jT up a) b
 | [],b,up=>rfl
 | x::a,b,up=>by rw [List.cons_append,jT,Ks a b,← jT]
theorem Kt:∀ (ps:List (List Int)) (up:List Nat),∃ r,jT up ps=up++r
  | [],up=>⟨[],by rw [jT,append_nil]⟩
  | l::r,up=>by
    obtain ⟨t,h⟩:=Kt r (up++[rz up l]);exact ⟨[rz up l]++t,by rw [jT,h,List.append_assoc]⟩
theorem zX {ps:List (List Int)} {i k:Nat} (aQ:i≤ps.length) (aE:k<3+i):(eN (ps.take i)).getD k 0=(eN ps).getD k 0:=by
 have h:eN ps=jT (eN (ps.take i)) (ps.drop i):=by
  show jT [1,3,5] ps=jT (jT [1,3,5] (ps.take i)) (ps.drop i);rw [← Ks,List.take_append_drop]
 obtain ⟨r,aF⟩:=Kt (ps.drop i) (eN (ps.take i));rw [h,aF];have aB:(eN (ps.take i)).length=3+i:=by rw [sX,length_take,min_eq_left aQ]
 rw [getD_eq_getElem?_getD,getD_eq_getElem?_getD,List.getElem?_append_left ag]
theorem SX {ps:List (List Int)} {i:Nat} {l:List Int} (aB:ps[i]? = some l):(eN ps).getD (3+i) 0=rz (eN (ps.take i)) l:=by
 have aQ:=(List.getElem?_eq_some_iff.1 aB).1;rw [← zX (i:=i+1) ag ag];have:ps.take (i+1)=ps.take i++[l]:=by rw [List.take_add_one,aB];rfl
 rw [this,Kp,getD_eq_getElem?_getD,List.getElem?_append_right (by rw [sX,length_take];omega)];rw [sX,length_take,min_eq_left ag,Nat.sub_self];rfl
theorem Ku (up:List Nat) (k:Nat):∀ (l:List Int) (s:Nat),(l.foldl (fun s p=>s|||up.getD p.toNat 0) s).testBit k=(s.testBit k||l.any fun p=>(up.getD p.toNat 0).testBit k)
 | [],s=>by simp
 | p::r,s=>by rw [List.foldl_cons,Ku up k r,Nat.testBit_or,List.any_cons,Bool.or_assoc]
theorem zY (k:Nat):(1:Nat).testBit k=decide (k=0):=by
 cases k with
 | zero=>rfl
 | succ k=>rw [Nat.testBit_succ];simp
theorem SY (c k:Nat):(2^c).testBit k=decide (c=k):=Nat.testBit_two_pow
theorem CZ {w:bx} (hw:gw w) {i:Nat} {l:List Int} (aB:w.ps[i]? = some l) (k:Nat):((eN w.ps).getD (3+i) 0).testBit k=(decide (k=0)||(decide (3+i=k)||l.any fun p=>((eN w.ps).getD p.toNat 0).testBit k)):=by
 have aQ:=(List.getElem?_eq_some_iff.1 aB).1;rw [SX aB,rz,Ku,Nat.testBit_or,zY,SY];rw [show (eN (w.ps.take i)).length=3+i by rw [sX,length_take,min_eq_left ag],Bool.or_assoc];congr 2;have aw:=CU hw.nS aB;rw [Bool.eq_iff_iff,any_eq_true,any_eq_true];constructor <;>
 ·rintro ⟨p,aD,h⟩
  obtain ⟨j,aK⟩:=getElem?_of_mem aD;have:=CV aw aK;refine ⟨p,aD,?_⟩;have e:=zX (ps:=w.ps) (i:=i) (k:=p.toNat) ag ag
  first|rw [← e];exact h|rw [e];exact h
theorem v7 {w:bx} (hw:gw w) {i:Nat} {l:List Int} (aB:w.ps[i]? = some l) {p:Int} (aD:p∈l):3≤p∧p<3+(i:Int):=by
 obtain ⟨j,aK⟩:=getElem?_of_mem aD;have:=CV (CU hw.nS aB) aK;omega
theorem C0 {w:bx} (hw:gw w) {c:Nat} (U:c<3+w.ps.length):((eN w.ps).getD c 0).testBit c=true:=by
 by_cases h:c<3
 ·rw [← zX (ps:=w.ps) (i:=0) (zero_le _) ag,take_zero]
  rcases (by omega:c=0∨c=1∨c=2) with rfl|rfl|rfl<;>rfl
 ·obtain ⟨i,rfl⟩:∃ i,c=3+i:=⟨c-3,by omega⟩
  rw [CZ hw (getElem?_eq_getElem ag)];simp
theorem SZ {w:bx} (hw:gw w) {c:Nat} (U:c<3+w.ps.length):((eN w.ps).getD c 0).testBit 0=true:=by
 by_cases h:c<3
 ·rw [← zX (ps:=w.ps) (i:=0) (zero_le _) ag,take_zero]
  rcases (by omega:c=0∨c=1∨c=2) with rfl|rfl|rfl<;>rfl
 ·obtain ⟨i,rfl⟩:∃ i,c=3+i:=⟨c-3,by omega⟩
  rw [CZ hw (getElem?_eq_getElem ag)];simp
theorem C1 {w:bx} {c k:Nat} (aC:c<3) (h:((eN w.ps).getD c 0).testBit k=true):k=c∨k=0:=by
 rw [← zX (ps:=w.ps) (i:=0) (zero_le _) ag,take_zero] at h;rcases (by omega:c=0∨c=1∨c=2) with rfl|rfl|rfl
 ·rw [show (eN []).getD 0 0=1 from rfl,zY,decide_eq_true_eq] at h
  exact .inr h
 ·have:k<2:=by
   rcases Nat.lt_or_ge k 2 with ad|ad
   ·exact ad
   ·have:=Nat.testBit_lt_two_pow (x:=3) (i:=k) (Nat.lt_of_lt_of_le dZ (Nat.pow_le_pow_right dZ ad))
    rw [show (eN []).getD 1 0=3 from rfl,this] at h;cases h
  omega
 ·have:k<3:=by
   rcases Nat.lt_or_ge k 3 with ad|ad
   ·exact ad
   ·have:=Nat.testBit_lt_two_pow (x:=5) (i:=k) (Nat.lt_of_lt_of_le dZ (Nat.pow_le_pow_right dZ ad))
    rw [show (eN []).getD 2 0=5 from rfl,this] at h;cases h
  rcases (by omega:k=0∨k=1∨k=2) with rfl|rfl|rfl
  ·exact .inr C
  ·exact absurd h dZ
  ·exact .inl C
theorem xU {w:bx} (hw:gw w):∀ (n c k:Nat),c<n→c<3+w.ps.length→((eN w.ps).getD c 0).testBit k=true→k≤c∧(3≤c→k=0∨3≤k)
  | 0,_,_,h,_,_=>by omega
  | n+1,c,k,h,aC,aq=>by
    by_cases al:c<3
    · have:=C1 al aq;omega
    · obtain ⟨i,rfl⟩:∃ i,c=3+i:=⟨c-3,by omega⟩
      obtain ⟨l,aB⟩:∃ l,w.ps[i]? = some l:=⟨_,getElem?_eq_getElem ag⟩;rw [CZ hw aB] at aq;simp only [or_eq_true,decide_eq_true_eq,any_eq_true] at aq;rcases aq with aq|aq|⟨p,aD,aq⟩
      · omega
      · omega
      · have U:=v7 hw aB aD
        have:=xU hw n p.toNat k ag ag aq;omega
def hj (ps:List (List Int)):Nat→(Nat→Bool)→Nat→Bool
 | 0,f=>f
 | m+1,f=>hj ps m fun k=>f k||(f (3+m)&&(ps.getD m []).contains (k:Int))
theorem FV {w:bx} (hw:gw w):∀ (m:Nat) (f:Nat→Bool) (k:Nat),k<3→m≤w.ps.length→hj w.ps m f k=f k
  | 0,f,k,_,_=>rfl
  | m+1,f,k,aE,hm=>by
    obtain ⟨l,aB⟩:∃ l,w.ps[m]? = some l:=⟨_,getElem?_eq_getElem ag⟩;rw [hj,FV hw m _ k aE ag,getD_eq_getElem?_getD,aB,getD_some];have:l.contains (k:Int)=false:=by
      rw [eq_false_iff];intro h;have:=v7 hw aB (contains_iff_mem.1 h);omega
    rw [this,Bool.and_false,Bool.or_false]
theorem FW {w:bx} (hw:gw w):∀ (m:Nat) (f:Nat→Bool) (k:Nat),3≤k→m≤w.ps.length→(hj w.ps m f k=true↔f k=true∨∃ j,j<m∧f (3+j)=true∧((eN w.ps).getD (3+j) 0).testBit k=true)
  | 0,f,k,_,_=>by
    rw [hj];constructor
    · exact .inl
    · rintro (h|⟨j,h,_⟩)
      · exact h
      · omega
  | m+1,f,k,aE,hm=>by
    obtain ⟨l,aB⟩:∃ l,w.ps[m]? = some l:=⟨_,getElem?_eq_getElem ag⟩;rw [hj,FW hw m _ k aE ag,getD_eq_getElem?_getD,aB,getD_some];have rB:=CZ hw aB k;simp only [or_eq_true,and_eq_true,contains_iff_mem];constructor
    · rintro ((h|⟨U,ad⟩)|⟨j,aK,h,aq⟩)
      · exact .inl h
      · refine .inr ⟨m,Nat.lt_succ_self _,U,?_⟩
        rw [rB];have al:=v7 hw aB ad;simp only [or_eq_true,any_eq_true];exact .inr (.inr ⟨(k:Int),ad,by rw [Int.toNat_natCast];exact C0 hw ag⟩)
      · rcases h with h|⟨U,ad⟩
        · exact .inr ⟨j,by omega,h,aq⟩
        · refine .inr ⟨m,Nat.lt_succ_self _,U,?_⟩
          rw [rB];simp only [or_eq_true,any_eq_true];exact .inr (.inr ⟨((3+j:Nat):Int),ad,by rw [Int.toNat_natCast];exact aq⟩)
    · rintro (h|⟨j,aK,h,aq⟩)
      · exact .inl (.inl h)
      · rcases lt_succ_iff_lt_or_eq.1 aK with aK|rfl
        · exact .inr ⟨j,aK,.inl h,aq⟩
        · rw [rB] at aq
          simp only [or_eq_true,decide_eq_true_eq,any_eq_true] at aq;rcases aq with aq|aq|⟨p,aD,aq⟩
          · omega
          · subst aq;exact .inl (.inl h)
          · have al:=v7 hw aB aD
            refine .inr ⟨p.toNat-3,by omega,.inr ⟨h,?_⟩,?_⟩
            · rw [show ((3+(p.toNat-3):Nat):Int)=p by omega];exact aD
            · rw [show 3+(p.toNat-3)=p.toNat by omega];exact aq
def v8 (w:bx) (c:Nat):Nat→Bool:=hj w.ps (c-2) fun k=>decide (k=c)
theorem FX {w:bx} (hw:gw w) {c k:Nat} (aC:c<3+w.ps.length) (aE:1≤k):v8 w c k=((eN w.ps).getD c 0).testBit k:=by
 unfold v8;by_cases al:c<3
 ·rw [show c-2=0 by omega,hj,Bool.eq_iff_iff,decide_eq_true_eq]
  constructor
  ·rintro rfl;exact C0 hw aC
  ·intro h;have:=C1 al h;omega
 ·by_cases sw:k<3
  ·rw [FV hw _ _ _ sw ag]
   rw [Bool.eq_iff_iff,decide_eq_true_eq];constructor
   ·omega
   ·intro h;have:=xU hw (c+1) c k ag aC h;omega
  ·rw [Bool.eq_iff_iff,FW hw _ _ _ ag ag]
   simp only [decide_eq_true_eq];constructor
   ·rintro (rfl|⟨j,aK,rfl,aq⟩)
    ·exact C0 hw aC
    ·exact aq
   ·intro h;exact .inr ⟨c-3,by omega,by omega,by rw [show 3+(c-3)=c by omega];exact h⟩
def gY (p:bP):List (List Int):=p.ck.map fJ.parents
def fC:Nat→List fJ→List Int
 | _,[]=>[]
 | i,c::r=>List.replicate c.bo.length ((i:Int)+3)++fC (i+1) r
def b9 (p:bP):bx:=⟨gY p,fC 0 p.ck⟩
def ni:Int→List Int→Option Int
 | n,[]=>some n
 | n,s::r=>if s=n then ni (n+1) r else none
def lh:Int→List fJ→Option Int
 | n,[]=>some n
 | n,c::r=>if c.bo.length≤4 then (ni n c.bo).bind fun m=>lh m r else none
def nV (cs:List fJ):Nat→List Int→List Int→List Int
 | 0,_,out=>out
 | k+1,up,out=>
  if up.contains ((k:Int)+3) then nV cs k (up++(cs.getD k default).parents) (out++(cs.getD k default).bo)
  else nV cs k up out
def oM (l:List Int):List Int:=l.mergeSort fun a b=>decide (a≤b)
def oN (p:bP) (c:Nat):List Int:=oM (nV p.ck (c+1) [(c:Int)+3] [])
def qy (v':List Int):List Int→List iP→Bool
 | _,[]=>true
 | seen,x::r=>v'.contains x.slot&&(!seen.contains x.slot&&(kr x.n&&qy v' (seen++[x.slot]) r))
def xV (p:bP) (i:Nat):List Int:=(fB (gY p) (2+(gY p).length)).getD i []
def FY (p:bP) (i:Nat) (c:fJ):Bool := !(xV p (i+3)).isEmpty&&qy (oN p i) [] c.inits
def qz (p:bP):Nat→List fJ→Bool
 | _,[]=>true
 | i,c::r=>FY p i c&&qz p (i+1) r
def oO (p:bP):Bool:=decide (p.ck.length≤10)&&((lh 0 p.ck==some p.bo)&&(mf (gY p)&&qz p 0 p.ck))
def mJ (p:bP) (x:iQ) (size:Int):Bool:=
 if x.op=1 then kr x.n
 else if x.op=3 then decide (x.n≥0)&&decide (x.n<size)
 else if x.op=4∨x.op=7 then decide (x.n≥0)&&decide (x.n<p.bo)
 else if x.op=6∨x.op=8 then decide (x.n≥3)&&decide (x.n<3+(p.ck.length:Int))
 else if x.op=5 then decide (x.n≥0)&&decide (x.n<(p.d'.length:Int))
 else decide (x.n≥0)&&decide (x.n<1)
def rC (p:bP) (x:iQ):Option Int:=
 if x.op=5 then some (p.d'.getD x.n.toNat 0)
 else if x.op=1∨x.op=2∨x.op=3∨x.op=6∨x.op=18 then some 0
 else if x.op=4∨x.op=8∨x.op=17 then some 1
 else if x.op=7∨x.op=9∨x.op=11∨x.op=12∨x.op=13∨x.op=14∨x.op=15∨x.op=16 then some 2
 else if x.op=10 then some 3
 else none
def xW (p:bP) (next:Bool) (x:iQ) (size:Int):Bool:=mJ p x size&&((next||decide (x.op≠18))&&(rC p x==some (x.kids.length:Int)))
def lj (g:Int→Int→List Int→Option (List Int)) (isLet:Bool) (size:Int):Nat→List Int→List Int→Option (List Int)
 | _,[],out=>some out
 | i,k::r,out=>(g k (if isLet&&i==1 then size+1 else size) out).bind (lj g isLet size (i+1) r)
def oP (p:bP) (n:Int) (out:List Int):Bool:=decide (n≥0)&&(decide (n<(p.nodes.length:Int))&&decide (out.getD n.toNat 0<0))
def visitM (p:bP) (next:Bool):Nat→Int→Int→List Int→Option (List Int)
 | 0,_,_,_=>none
 | f+1,n,size,out=>
  if oP p n out then
   if xW p next (p.nodes.getD n.toNat default) size then lj (visitM p next f) (decide ((p.nodes.getD n.toNat default).op=9)) size 0 (p.nodes.getD n.toNat default).kids (out.set n.toNat size)
   else none
  else none
def sZ (p:bP) (m:hW):Bool:=
 decide (m.kind≥1)&&(decide (m.kind≤4)&&(decide (m.gen≥0)&&(decide (m.gen<(p.d'.length:Int))&&(iz (b9 p) m.fact&&decide (lg m.fact≤p.d'.getD m.gen.toNat 0)))))
def s0 (k:Int):Bool:=decide (k=1)||decide (k=4)
def nj (p:bP):List hW→List Int→Option (List Int)
 | [],out=>some out
 | m::r,out=>if sZ p m then (visitM p (s0 m.kind) 12 m.node (p.d'.getD m.gen.toNat 0) out).bind (nj p r) else none
def qA (p:bP):Bool:=
 decide (p.d'.length≤8)&&(decide (p.methods.length≤16)&&(decide (p.nodes.length≥1)&&(decide (p.nodes.length≤120)&&p.d'.all fun n=>decide (n≥1)&&decide (n≤3))))
def nk (p:bP):Option (List Int):=
 if oO p&&qA p then
  (nj p p.methods (List.replicate p.nodes.length (-1))).bind fun out=>(visitM p false 12 p.main 0 out).bind fun out=>if out.contains (-1) then none else some out
 else none
def gy (p:bP):Bool:=(nk p).isSome
theorem Kv:∀ (l:List fJ) (i:Nat),(∀ c∈l,c.bo.length≤4)→(fC i l).length≤4*l.length
  | [],_,_=>Nat.le_refl _
  | c::r,i,h=>by
    have U:=Kv r (i+1) (fun x ab=>h x (mem_cons_of_mem _ ab));have ad:=h c mem_cons_self;rw [fC,length_append,length_replicate,length_cons];omega
theorem C2:∀ (l:List fJ) (i:Nat),∀ o∈fC i l,(i:Int)+3≤o∧o<3+(i:Int)+(l.length:Int)
  | [],_,o,h=>by cases h
  | c::r,i,o,h=>by
    rw [fC] at h;rcases mem_append.1 h with h|h
    · obtain ⟨_,rfl⟩:=List.mem_replicate.1 h
      rw [length_cons];omega
    · have:=C2 r (i+1) o h
      rw [length_cons];omega
theorem FZ:∀ {l:List fJ} {n m:Int},lh n l=some m→∀ c∈l,c.bo.length≤4
  | c::r,n,m,h,x,ab=>by
    rw [lh] at h;split at h
    · rename_i aC
      cases az:ni n c.bo with
      | none=>rw [az] at h;cases h
      | some k=>
        rw [az] at h;rcases mem_cons.1 ab with rfl|ab
        · exact aC
        · exact FZ (l:=r) h x ab
    · cases h
theorem Kw:∀ (g:List (List Int)) (i:Nat),nQ i g=true→vY i g=true∧∀ l∈g,l.length≤3
  | [],_,_=>⟨rfl,fun l h=>by cases h⟩
  | x::r,i,h=>by
    rw [nQ] at h;simp only [and_eq_true,decide_eq_true_eq] at h;obtain ⟨U,ad⟩:=Kw r (i+1) h.2.2;refine ⟨by rw [vY,h.2.1,U];rfl,fun l aB=>?_⟩;rcases mem_cons.1 aB with rfl|aB
    · exact h.1
    · exact ad l aB
theorem Kx {p:bP} (aC:p.ck.length≤10) {n:Int} (ar:lh 0 p.ck=some n) (aw:mf (gY p)=true):gw (b9 p):=by
 unfold mf at aw;rw [and_eq_true] at aw;obtain ⟨g1,g2⟩:=Kw _ _ aw.2;have aB:(gY p).length=p.ck.length:=length_map _;have U:=Kv p.ck 0 (FZ ar);refine ⟨by show (gY p).length≤60;omega,g2,g1,by show (fC 0 p.ck).length≤40;omega,fun o ah=>?_⟩;have:=C2 p.ck 0 o ah;show 3≤o∧o<3+((gY p).length:Int);omega
theorem F0 {p:bP} (h:oO p=true):gw (b9 p):=by
 unfold oO at h;simp only [and_eq_true,decide_eq_true_eq,beq_iff_eq] at h;exact Kx h.1 h.2.1 h.2.2.1
theorem F1 {w:bx} (hw:gw w):∀ (m:Nat) (f:Nat→Bool) (k:Nat),3+m≤k→m≤w.ps.length→hj w.ps m f k=f k
  | 0,f,k,_,_=>rfl
  | m+1,f,k,aE,hm=>by
    obtain ⟨l,aB⟩:∃ l,w.ps[m]? = some l:=⟨_,getElem?_eq_getElem ag⟩;rw [hj,F1 hw m _ k ag ag,getD_eq_getElem?_getD,aB,getD_some];have:l.contains (k:Int)=false:=by
      rw [eq_false_iff];intro h;have:=v7 hw aB (contains_iff_mem.1 h);omega
    rw [this,Bool.and_false,Bool.or_false]
theorem C3 (ps:List (List Int)):∀ (m:Nat) (f g:Nat→Bool),(∀ k,f k=g k)→∀ k,hj ps m f k=hj ps m g k
  | 0,f,g,h,k=>h k
  | m+1,f,g,h,k=>by
    rw [hj,hj];exact C3 ps m _ _ (fun k=>by rw [h,h]) k
theorem F2 {cs:List fJ} {w:bx} (hw:gw w) (pa:w.ps=cs.map fJ.parents):∀ (m:Nat) (up out:List Int) (s:Int),m≤cs.length→(s∈nV cs m up out↔s∈out∨∃ j,j<m∧hj w.ps m (fun k=>up.contains (k:Int)) (3+j)=true∧s∈(cs.getD j default).bo)
  | 0,up,out,s,_=>by
    rw [nV];constructor
    · exact .inl
    · rintro (h|⟨j,h,_⟩)
      · exact h
      · omega
  | m+1,up,out,s,hm=>by
    have aB:m<cs.length:=by omega
    have h4:w.ps.length=cs.length:=by rw [pa,length_map]
    have S0:w.ps.getD m []=(cs.getD m default).parents:=by
      rw [pa,getD_eq_getElem?_getD,getD_eq_getElem?_getD,getElem?_map,getElem?_eq_getElem aB];rfl
    rw [nV];have eR:((m:Int)+3)=((3+m:Nat):Int):=by omega
    rw [eR];cases hu:up.contains ((3+m:Nat):Int) with
    | true=>
      rw [if_pos C,F2 hw pa m _ _ s ag];have aC:∀ k,hj w.ps m (fun k=>(up++(cs.getD m default).parents).contains (k:Int)) k=hj w.ps (m+1) (fun k=>up.contains (k:Int)) k:=fun k=>by
        rw [hj];refine C3 _ _ _ _ (fun k=>?_) k;rw [List.contains_append,hu,Bool.true_and,S0]
      simp only [aC,mem_append];constructor
      · rintro ((h|h)|⟨j,U,ad,al⟩)
        · exact .inl h
        · exact .inr ⟨m,by omega,by rw [hj,F1 hw m _ _ (Nat.le_refl _) ag,hu,Bool.true_or],h⟩
        · exact .inr ⟨j,by omega,ad,al⟩
      · rintro (h|⟨j,U,ad,al⟩)
        · exact .inl (.inl h)
        · rcases lt_succ_iff_lt_or_eq.1 U with U|rfl
          · exact .inr ⟨j,U,ad,al⟩
          · exact .inl (.inr al)
    | false=>
      rw [if_neg a',F2 hw pa m _ _ s ag];have aC:∀ k,hj w.ps (m+1) (fun k=>up.contains (k:Int)) k=hj w.ps m (fun k=>up.contains (k:Int)) k:=fun k=>by
        rw [hj];exact C3 _ _ _ _ (fun k=>by rw [hu,Bool.false_and,Bool.or_false]) k
      simp only [aC];constructor
      · rintro (h|⟨j,U,ad,al⟩)
        · exact .inl h
        · exact .inr ⟨j,by omega,ad,al⟩
      · rintro (h|⟨j,U,ad,al⟩)
        · exact .inl h
        · rcases lt_succ_iff_lt_or_eq.1 U with U|rfl
          · exact .inr ⟨j,U,ad,al⟩
          · rw [F1 hw _ _ _ (Nat.le_refl _) ag,hu] at ad
            cases ad
theorem Ky:∀ {l:List Int} {n m:Int},ni n l=some m→m=n+l.length∧∀ s,s∈l↔n≤s∧s<n+l.length
  | [],n,m,h=>by rw [ni] at h;cases h;exact ⟨by simp,fun s=>by simp⟩
  | x::r,n,m,h=>by
    rw [ni] at h;split at h
    · rename_i ab
      subst ab;obtain ⟨U,ad⟩:=Ky h;refine ⟨by rw [length_cons];omega,fun s=>?_⟩;rw [mem_cons,ad,length_cons];omega
    · cases h
theorem F3:∀ {l:List fJ} {i:Nat} {n m:Int},lh n l=some m→m=n+(fC i l).length∧∀ (j:Nat) (c:fJ),l[j]? = some c→∀ s:Int,s∈c.bo↔n≤s∧(fC i l)[(s-n).toNat]? = some ((i:Int)+j+3)
  | [],i,n,m,h=>by rw [lh] at h;cases h;exact ⟨by simp [fC],fun j c h=>by simp at h⟩
  | x::r,i,n,m,h=>by
    rw [lh] at h;split at h
    · cases aE:ni n x.bo with
      | none=>rw [aE] at h;cases h
      | some k=>
        rw [aE,Option.bind_some] at h;obtain ⟨U,ad⟩:=Ky aE;obtain ⟨al,bd⟩:=F3 (i:=i+1) h;refine ⟨by rw [fC,length_append,length_replicate];push_cast;omega,fun j c aK s=>?_⟩;rw [fC];cases j with
        | zero=>
          have:x=c:=by simpa using aK
          subst this;rw [ad];constructor
          · intro ar
            refine ⟨ar.1,?_⟩;rw [List.getElem?_append_left t',List.getElem?_replicate,if_pos ag];simp
          · rintro ⟨g1,g2⟩
            by_cases ar:s<n+x.bo.length
            · exact ⟨g1,ar⟩
            · rw [List.getElem?_append_right t'] at g2
              have:=C2 r (i+1) _ (mem_of_getElem? g2);omega
        | succ j=>
          rw [bd j c (by simpa using aK)];constructor
          · rintro ⟨g1,g2⟩
            refine ⟨by omega,?_⟩;rw [List.getElem?_append_right t',length_replicate,show (s-n).toNat-x.bo.length=(s-k).toNat by omega,g2];congr 1;push_cast;omega
          · rintro ⟨g1,g2⟩
            by_cases ar:s<k
            · rw [List.getElem?_append_left t',List.getElem?_replicate,if_pos ag] at g2
              have:=Option.some.inj g2;omega
            · rw [List.getElem?_append_right t',length_replicate,show (s-n).toNat-x.bo.length=(s-k).toNat by omega] at g2
              refine ⟨by omega,g2.trans ?_⟩;congr 1;push_cast;omega
    · cases h
theorem S1 {p:bP} {n:Int} (ar:lh 0 p.ck=some n) (hw:gw (b9 p)) {i:Nat} (aQ:i<p.ck.length) (s:Int) :
  (oN p i).contains s=(decide (s≥0)&&(decide (s<n)&&((eN (b9 p).ps).getD (3+i) 0).testBit ((b9 p).owner.getD s.toNat 0).toNat)):=by
 obtain ⟨U,ad⟩:=F3 (i:=0) ar;have h4:(b9 p).ps.length=p.ck.length:=length_map _;have gn:(b9 p).owner=fC 0 p.ck:=rfl;rw [Bool.eq_iff_iff,contains_iff_mem];unfold oN oM;rw [List.mem_mergeSort,F2 hw C (i+1) _ _ s ag];have aC:∀ k,hj (b9 p).ps (i+1) (fun k=>[(i:Int)+3].contains (k:Int)) k=v8 (b9 p) (3+i) k:=fun k=>by
  unfold v8;rw [show 3+i-2=i+1 by omega];refine C3 _ _ _ _ (fun k=>?_) k;rw [Bool.eq_iff_iff,contains_iff_mem,mem_singleton,decide_eq_true_eq];omega
 simp only [aC,and_eq_true,decide_eq_true_eq];rw [gn];constructor
 ·rintro (h|⟨j,aK,aq,hm⟩)
  ·cases h
  ·have vu:j<p.ck.length:=by omega
   obtain ⟨c,zZ⟩:∃ c,p.ck[j]? = some c:=⟨_,getElem?_eq_getElem vu⟩;rw [getD_eq_getElem?_getD,zZ,getD_some] at hm;obtain ⟨g1,g2⟩:=(ad j c zZ s).1 hm;rw [Int.sub_zero] at g2;have g3:=(List.getElem?_eq_some_iff.1 g2).1;refine ⟨g1,by omega,?_⟩;rw [show (fC 0 p.ck).getD s.toNat 0=((0:Nat):Int)+(j:Int)+3 by rw [getD_eq_getElem?_getD,g2];rfl,← FX hw ag ag];rw [show (((0:Nat):Int)+(j:Int)+3).toNat=3+j by omega];exact aq
 ·rintro ⟨g1,g2,g3⟩
  obtain ⟨o,ah⟩:∃ o,(fC 0 p.ck)[s.toNat]? = some o:=⟨_,getElem?_eq_getElem ag⟩;have Kz:=C2 p.ck 0 o (mem_of_getElem? ah);rw [show (fC 0 p.ck).getD s.toNat 0=o by rw [getD_eq_getElem?_getD,ah];rfl] at g3;have hle:=xU hw (3+i+1) (3+i) o.toNat ag ag g3;obtain ⟨j,aK⟩:∃ j:Nat,o=3+(j:Int):=⟨(o-3).toNat,by omega⟩;obtain ⟨c,zZ⟩:∃ c,p.ck[j]? = some c:=⟨_,getElem?_eq_getElem ag⟩;refine .inr ⟨j,by omega,?_,?_⟩
  ·rw [FX hw ag ag,show 3+j=o.toNat by omega]
   exact g3
  ·rw [getD_eq_getElem?_getD,zZ,getD_some]
   refine (ad j c zZ s).2 ⟨g1,?_⟩;rw [Int.sub_zero,ah,aK];congr 1;omega
mutual
def nW:ak→Int
 | .mk _ _ _ _ _ ks=>1+ku ks
def ku:List ak→Int
 | []=>0
 | x::r=>nW x+ku r
end
mutual
def mK:ak→Int→Int
 | .mk _ _ _ _ _ ks,fK=>oQ ks fK 1
def oQ:List ak→Int→Int→Int
 | [],_,n=>n
 | x::r,fK,n=>if n≤fK then oQ r fK (n+mK x (fK-n)) else n
end
mutual
def mL:ak→Int
 | .mk _ _ _ _ _ ks=>lO 0 ks+1
def lO (m:Int):List ak→Int
 | []=>m
 | x::r=>lO (max m (mL x)) r
end
theorem KA (f:ak) (m:Int):mK f m=oQ f.kids m 1:=by cases f;rw [mK];rfl
theorem S2 (f:ak):mL f=lO 0 f.kids+1:=by cases f;rw [mL];rfl
mutual
theorem C4:∀ f:ak,1≤nW f∧nW f≤(f.size:Int)
  | .mk _ _ p _ _ ks=>by
    have:=ue ks;rw [nW,ak.size];push_cast;omega
theorem ue:∀ l:List ak,0≤ku l∧ku l≤(ak.hB l:Int)
  | []=>by rw [ku];exact ⟨Int.le_refl _,by simp⟩
  | x::r=>by
    have U:=C4 x;have ad:=ue r;rw [ku,ak.hB];push_cast;omega
end
mutual
theorem F4:∀ (f:ak) (fK:Int),(nW f≤fK→mK f fK=nW f)∧(nW f>fK→mK f fK>fK)∧mK f fK≤nW f∧1≤mK f fK
  | .mk _ _ _ _ _ ks,fK=>by
    rw [nW,mK];exact KB ks fK 1
theorem KB:∀ (l:List ak) (fK n:Int),(n+ku l≤fK→oQ l fK n=n+ku l)∧(n+ku l>fK→oQ l fK n>fK)∧oQ l fK n≤n+ku l∧n≤oQ l fK n
  | [],fK,n=>by rw [oQ,ku];omega
  | x::r,fK,n=>by
    have U:=F4 x (fK-n);have ad:=KB r fK (n+mK x (fK-n));have al:=C4 x;have bd:=ue r;rw [oQ,ku];split<;>omega
end
theorem F5:∀ (l:List ak) (m:Int),m≤lO m l
 | [],m=>by rw [lO];exact Int.le_refl _
 | x::r,m=>by rw [lO];have:=F5 r (max m (mL x));omega
theorem C5:∀ (l:List ak) (m d:Int),lO m l≤d↔m≤d∧∀ x∈l,mL x≤d
  | [],m,d=>by rw [lO];simp
  | x::r,m,d=>by
    rw [lO,C5 r];constructor
    · rintro ⟨U,ad⟩
      refine ⟨by omega,fun y ay=>?_⟩;rcases mem_cons.1 ay with rfl|ay
      · omega
      · exact ad y ay
    · rintro ⟨U,ad⟩
      exact ⟨by have:=ad x mem_cons_self;omega,fun y ay=>ad y (mem_cons_of_mem _ ay)⟩
mutual
theorem F6:∀ f:ak,1≤mL f∧mL f≤(f.size:Int)
  | .mk _ _ p _ _ ks=>by
    have U:=C5 ks 0 (ak.hB ks:Int);have ad:=F5 ks 0;rw [mL,ak.size]
    have:lO 0 ks≤(ak.hB ks:Int):=U.2 ⟨by omega,fun x ab=>by
      have:=KC ks x ab
      have:=ak.hV ab
      omega⟩
    push_cast;omega
theorem KC:∀ (l:List ak),∀ x∈l,1≤mL x∧mL x≤(x.size:Int)
  | y::r,x,h=>by
    rcases mem_cons.1 h with h|h
    · rw [h];exact F6 y
    · exact KC r x h
end
mutual
theorem KD:∀ (f:ak) (w:bx) (d:Nat) (k:Int),((e3 w d k f).1=true↔nW f≤k∧mL f≤d∧gx w f=true)∧((e3 w d k f).1=true→(e3 w d k f).2=k-nW f)
  | .mk o a p c n ks,w,d,k=>by
    have ar:=ue ks;have ax:=F5 ks 0;rw [e3,nW,mL,gx];split
    · rename_i h
      simp only [or_eq_true,decide_eq_true_eq] at h;refine ⟨⟨fun h=>nA,fun ⟨U,ad,_⟩=>by omega⟩,fun h=>nA⟩
    · rename_i h
      simp only [or_eq_true,decide_eq_true_eq,not_or] at h;have a1:=KE ks w (d-1) (k-1) ag;have e:lO 0 ks≤((d-1:Nat):Int)↔lO 0 ks+1≤(d:Int):=by omega
      split
      · rename_i az
        rw [az,Bool.true_and];refine ⟨?_,fun h=>by rw [a1.2 h];omega⟩;rw [a1.1];constructor
        · rintro ⟨U,ad,al⟩;exact ⟨by omega,e.1 ad,al⟩
        · rintro ⟨U,ad,al⟩;exact ⟨by omega,e.2 ad,al⟩
      · rename_i az
        refine ⟨⟨fun h=>nA,fun ⟨_,_,h⟩=>?_⟩,fun h=>nA⟩;rw [and_eq_true] at h;exact absurd h.1 az
theorem KE:∀ (l:List ak) (w:bx) (d:Nat) (k:Int),0≤k→((gX w d k l).1=true↔ku l≤k∧lO 0 l≤d∧jU w l=true)∧((gX w d k l).1=true→(gX w d k l).2=k-ku l)
  | [],w,d,k,aE=>by
    rw [gX,ku,lO,jU];exact ⟨⟨fun _=>⟨aE,by omega,rfl⟩,fun _=>rfl⟩,fun _=>by simp⟩
  | x::r,w,d,k,aE=>by
    have ab:=KD x w d k;have aD:=C4 x;have aF:=ue r;rw [gX,ku,jU,C5];split
    · rename_i h
      obtain ⟨U,ad,al⟩:=ab.1.1 h;have he:=ab.2 h;rw [he];have a1:=KE r w d (k-nW x) ag;refine ⟨?_,fun h=>by rw [a1.2 h];omega⟩;rw [a1.1,al,Bool.true_and,C5];constructor
      · rintro ⟨dW,a2,a3⟩
        refine ⟨by omega,⟨a2.1,fun y ay=>?_⟩,a3⟩;rcases mem_cons.1 ay with rfl|ay
        · exact ad
        · exact a2.2 y ay
      · rintro ⟨dW,a2,a3⟩
        exact ⟨by omega,⟨a2.1,fun y ay=>a2.2 y (mem_cons_of_mem _ ay)⟩,a3⟩
    · rename_i h
      refine ⟨⟨fun h=>nA,fun ⟨dW,a2,a3⟩=>?_⟩,fun h=>nA⟩;rw [and_eq_true] at a3;exact absurd (ab.1.2 ⟨by omega,a2.2 x mem_cons_self,a3.1⟩) h
end
theorem S3 (w:bx) (f:ak):(decide (mK f 24≤24)&&(decide (mL f≤12)&&gx w f))=iz w f:=by
 have U:=(KD f w 12 24).1;have ad:=F4 f 24;have al:mK f 24≤24↔nW f≤24:=by omega
 unfold iz;rw [Bool.eq_iff_iff,U];simp only [and_eq_true,decide_eq_true_eq,al];simp
end Go.eb
namespace Go.Proofs.YtnafpeohfbglmaaGreat
open Go.cU Go.eb
def bz:Nat:=1099511627776
theorem bA:bz=1099511627776:=rfl
theorem b1 {α:Type} {f:α→af} {l:List α} {j:Nat} (h:j<l.length):∃ x,l[j]? = some x∧(l.map f)[j]? = some (f x):=
 ⟨l[j],getElem?_eq_getElem h,by simp [h]⟩
theorem drop_cons {α:Type} {l:List α} {j:Nat} {x:α} (h:l[j]? = some x):l.drop j=x::l.drop (j+1):=by
 obtain ⟨U,ad⟩:=List.getElem?_eq_some_iff.1 h;rw [List.drop_eq_getElem_cons U,ad]
theorem ep {α:Type} {l:List α} {j:Nat} (h:l.length≤j):l.drop j=[]:=List.drop_eq_nil_of_le h
theorem iA {α:Type} {l:List α} {j:Nat} {x:α} (h:l[j]? = some x):l.take (j+1)=l.take j++[x]:=by
 rw [List.take_add_one,h];rfl
theorem qB {α:Type} {l:List α} {j:Nat} {x:α} (h:l[j]? = some x):j<l.length:=(List.getElem?_eq_some_iff.1 h).1
def ba (n:Int):af := .int .i64 n
def bf (l:List Int):af := .aA 1 (l.map ba) .bb
def c9 (g:List (List Int)):af := .aA 1 (g.map bf) .bb
theorem KF (l:List Int) (n:Int) (aB:l.length<bz):aR Tryz.prog 92 [bf l,.int .i64 n] (.int .i64 (match l.findIdx? (· == n) with
  | some i=>(i:Int)
  | none => -1)):=by
 have aq:=bA;refine aR.bh ai Tryz.func92 C C fun s I=>?_
 unfold bf;refine gm ?_;refine ae.b4 [0,1,7] C I (σ:=Nat) (fun j=>[(8,.int .i64 (j:Int))]) (fun _=>[]) (fun j=>j≤l.length∧∀ i,i<j→l[i]? ≠ some n) (fun j=>l.length-j) 0 ⟨zero_le _,fun i aQ=>absurd aQ (Nat.not_lt_zero _)⟩ (cq C) aX ?_;rintro j ⟨aK,an⟩ I;refine b7 ?_;refine ae.cond C (fun au=>?_) (fun aV=>?_);rotate_left;have aV:j=l.length:=by
  have:l.length≤j:=by simpa using aV
  omega
 ·have ab:l.findIdx? (· == n)=none:=by
   rw [List.findIdx?_eq_none_iff];intro z bO;obtain ⟨i,aQ⟩:=getElem?_of_mem bO;have U:=qB aQ;have ad:=an i ag;simp only [beq_eq_false_iff_ne];intro e;subst e;exact ad aQ
  rw [ab];refine dN ?_;exact bl I
 have au:j<l.length:=by simpa using au
 obtain ⟨y,ay,da⟩:=b1 (f:=ba) au;unfold ba at da;refine bC ?_;refine ae.cond C (fun az=>?_) (fun az=>?_)
 ·have az:n=y:=by simpa using az
  subst az;have ab:l.findIdx? (· == n)=some j:=by
   rw [List.findIdx?_eq_some_iff_getElem];refine ⟨au,by simpa using (List.getElem?_eq_some_iff.1 ay).2,fun i aQ=>?_⟩;have:=an i aQ;rw [getElem?_eq_getElem ag] at this;simpa using this
  rw [ab];refine ja ?_;exact bl I
 ·have az:n≠y:=by simpa using az
  refine gd ?_;refine bn.mk (j+1) I ⟨au,?_⟩ ca aX (by show l.length-(j+1)<l.length-j;omega);intro i aQ;rcases lt_succ_iff_lt_or_eq.1 aQ with aQ|rfl
  ·exact an i aQ
  ·rw [ay];intro e;cases e;exact az C
theorem KG (l:List Int) (n:Int):decide ((match l.findIdx? (· == n) with
  | some i=>(i:Int)
  | none => -1)≥0)=l.contains n:=by
 cases h:l.findIdx? (· == n) with
 | none=>
  rw [List.findIdx?_eq_none_iff] at h;have:n∉l:=fun az=>by have:=h n az;simp at this
  simp [this]
 | some i=>
  rw [List.findIdx?_eq_some_iff_getElem] at h;obtain ⟨aQ,U,_⟩:=h;have e:l[i]=n:=by simpa using U
  have:n∈l:=by rw [← e];exact List.getElem_mem aQ
  simp [this]
theorem xX (l:List Int) (n:Int) (aB:l.length<bz):aR Tryz.prog 43 [bf l,.int .i64 n] (.bool (l.contains n)):=by
 rw [← KG];refine aR.bh ai Tryz.func43 C C fun s I=>?_
 refine dv ?_;refine aa.eg C C C C C (KF l n aB) ?_;refine eu ?_;exact bl I
theorem KH (l:List Int) (n:Int) (aB:l.length<bz):aR Tryz.prog 218 [bf l,.int .i64 n] (.bool (l.contains n)):=by
 have aq:=bA;refine aR.bh ai Tryz.func218 C C fun s I=>?_
 unfold bf;refine gm ?_;refine ae.b4 [0,1] C I (σ:=Nat) (fun j=>[(5,.int .i64 (j:Int))]) (fun _=>[]) (fun j=>j≤l.length∧∀ i,i<j→l[i]? ≠ some n) (fun j=>l.length-j) 0 ⟨zero_le _,fun i aQ=>absurd aQ (Nat.not_lt_zero _)⟩ (cq C) aX ?_;rintro j ⟨aK,an⟩ I;refine b7 ?_;refine ae.cond C (fun au=>?_) (fun aV=>?_);rotate_left;have aV:j=l.length:=by
  have:l.length≤j:=by simpa using aV
  omega
 ·have ab:l.contains n=false:=by
   rw [eq_false_iff];intro hm;have hm:n∈l:=by simpa using hm
   obtain ⟨i,aQ⟩:=getElem?_of_mem hm;exact an i (by have:=qB aQ;omega) aQ
  rw [ab];refine dN ?_;exact bl I
 have au:j<l.length:=by simpa using au
 obtain ⟨y,ay,da⟩:=b1 (f:=ba) au;unfold ba at da;refine dF ?_;refine ae.cond C (fun az=>?_) (fun az=>?_)
 ·have az:y=n:=by simpa using az
  subst az;have ab:l.contains y=true:=by simpa using mem_of_getElem? ay
  rw [ab];refine ja ?_;exact bl I
 ·have az:y≠n:=by simpa using az
  refine gd ?_;refine bn.mk (j+1) I ⟨au,?_⟩ ca aX (by show l.length-(j+1)<l.length-j;omega);intro i aQ;rcases lt_succ_iff_lt_or_eq.1 aQ with aQ|rfl
  ·exact an i aQ
  ·rw [ay];intro e;cases e;exact az C
theorem z1 (a b:List Int) (aB:a.length<bz) (z6:b.length<bz):aR Tryz.prog 37 [bf a,bf b] (.bool (a==b)):=by
 have aq:=bA;refine aR.bh ai Tryz.func37 C C fun s I=>?_
 unfold bf;refine b7 ?_;refine ae.cond C (fun h=>?_) (fun h=>?_)
 ·have cP:(a==b)=false:=by
   rw [beq_eq_false_iff_ne];intro e;simp [e] at h
  rw [cP];refine gv ?_;exact bl I
 ·have eS:a.length=b.length:=by simp at h;omega
  refine jb ?_;refine ae.b4 [0,1,12] C I (σ:=Nat) (fun j=>[(13,.int .i64 (j:Int))]) (fun _=>[]) (fun j=>j≤a.length∧(a==b)=(a.drop j==b.drop j)) (fun j=>a.length-j) 0 ⟨zero_le _,rfl⟩ (cq C) aX ?_;rintro j ⟨aK,an⟩ I;refine b7 ?_;refine ae.cond C (fun au=>?_) (fun aV=>?_);rotate_left;have aV:j=a.length:=by
   have:a.length≤j:=by simpa using aV
   omega
  ·rw [ep ag,ep ag] at an
   rw [an];refine dN ?_;exact bl I
  have au:j<a.length:=by simpa using au
  obtain ⟨x,ab,bJ⟩:=b1 (f:=ba) au;obtain ⟨y,ay,da⟩:=b1 (f:=ba) (by omega:j<b.length);rw [drop_cons ab,drop_cons ay,List.cons_beq_cons] at an;refine jb ?_;refine ae.qn ai mixed C (bc.run C ?_);refine bc.idx 2 j C C C C C C C C C C C C C bJ C ?_;refine bc.idx 6 j C C C C C C C C C C C C C da C ?_;refine bc.run C (bc.done C ?_);refine ae.cond C (fun az=>?_) (fun az=>?_)
  ·have az:x≠y:=by simpa using az
   rw [an,beq_false_of_ne az];refine ja ?_;exact bl I
  ·have az:x=y:=by simpa using az
   subst az;rw [beq_self_eq_true,Bool.true_and] at an;refine gd ?_;refine bn.mk (j+1) I ⟨au,an⟩ ca aX CJ
theorem s3 (a b:List Int) (aB:a.length<bz) (z6:b.length<bz):aR Tryz.prog 24 [bf a,bf b] (.bool (a==b)):=by
 have aq:=bA;refine aR.bh ai Tryz.func24 C C fun s I=>?_
 unfold bf;refine b7 ?_;refine ae.cond C (fun h=>?_) (fun h=>?_)
 ·have cP:(a==b)=false:=by
   rw [beq_eq_false_iff_ne];intro e;simp [e] at h
  rw [cP];refine gv ?_;exact bl I
 ·have eS:a.length=b.length:=by simp at h;omega
  refine jb ?_;refine ae.b4 [0,1,12] C I (σ:=Nat) (fun j=>[(13,.int .i64 (j:Int))]) (fun _=>[]) (fun j=>j≤a.length∧(a==b)=(a.drop j==b.drop j)) (fun j=>a.length-j) 0 ⟨zero_le _,rfl⟩ (cq C) aX ?_;rintro j ⟨aK,an⟩ I;refine b7 ?_;refine ae.cond C (fun au=>?_) (fun aV=>?_);rotate_left;have aV:j=a.length:=by
   have:a.length≤j:=by simpa using aV
   omega
  ·rw [ep ag,ep ag] at an
   rw [an];refine dN ?_;exact bl I
  have au:j<a.length:=by simpa using au
  obtain ⟨x,ab,bJ⟩:=b1 (f:=ba) au;obtain ⟨y,ay,da⟩:=b1 (f:=ba) (by omega:j<b.length);rw [drop_cons ab,drop_cons ay,List.cons_beq_cons] at an;refine jb ?_;refine ae.qn ai mixed C (bc.run C ?_);refine bc.idx 2 j C C C C C C C C C C C C C bJ C ?_;refine bc.idx 6 j C C C C C C C C C C C C C da C ?_;refine bc.run C (bc.done C ?_);refine ae.cond C (fun az=>?_) (fun az=>?_)
  ·have az:x≠y:=by simpa using az
   rw [an,beq_false_of_ne az];refine ja ?_;exact bl I
  ·have az:x=y:=by simpa using az
   subst az;rw [beq_self_eq_true,Bool.true_and] at an;refine gd ?_;refine bn.mk (j+1) I ⟨au,an⟩ ca aX CJ
theorem KI {α:Type} (q:α→Bool) {l:List α} {j:Nat} {x:α} (h:l[j]? = some x):(l.take (j+1)).filter q=(l.take j).filter q++(if q x then [x] else []):=by
 rw [iA h,List.filter_append];congr 1;cases bq:q x<;>simp [bq]
theorem KJ (fv:af) (q:Int→Bool) (bq:∀ y,eA Tryz.prog fv [.int .i64 y] (.bool (q y))) (l:List Int) (aB:l.length<bz):aR Tryz.prog 307 [bf l,fv] (bf (l.filter q)):=by
 have aq:=bA;obtain ⟨xs,c5⟩:∃ xs:Nat→List af,∀ j,xs j=((l.take j).filter q).map ba:=⟨_,fun _=>rfl⟩;have bt:xs 0=[]:=by rw [c5];rfl
 have fc:∀ j,(xs j).length≤l.length:=fun j=>by
  rw [c5,length_map];exact le_trans (List.length_filter_le _ _) (length_take_le' _ _)
 refine aR.bh ai Tryz.func307 C C fun s I=>?_
 unfold bf;refine gm ?_;refine ae.h7 I 3 1 0 fun I=>?_
 refine ae.b4 [1,8,9] C I (σ:=Nat×bL) (fun q=>[(10,.int .i64 (q.1:Int)),(5,.aA 1 (xs q.1) q.2)]) (fun q=>[(q.2,.row 3 1 (xs q.1).length)]) (fun q=>q.1≤l.length) (fun q=>l.length-q.1) (0,.nil) (zero_le _) ⟨⟨_,rfl,aL⟩,⟨_,rfl,by rw [bt];exact aS.nil gW⟩,trivial⟩ (by rw [bt];exact aH.dq _) ?_;rintro ⟨j,own⟩ aK I;simp only at aK I ⊢;refine b7 ?_;refine ae.cond C (fun au=>?_) (fun aV=>?_);rotate_left;have aV:j=l.length:=by
  have:l.length≤j:=by simpa using aV
  omega
 ·subst aV
  have he:xs l.length=(l.filter q).map ba:=by rw [c5,take_length]
  rw [he];refine dN ?_;exact Fin.cx I C aS.bb
 have au:j<l.length:=by simpa using au
 obtain ⟨y,ay,da⟩:=b1 (f:=ba) au;have ar:=c5 (j+1);rw [KI q ay,map_append,← c5] at ar;have lC:=fc j;have S4:=bq y;unfold ba at da;refine dF ?_;refine aa.l' C C C C C C S4 ?_;cases av:q y with
 | true=>
  have ar:xs (j+1)=xs j++[.int .i64 y]:=by rw [ar,av];rfl
  have df:(xs (j+1)).length=(xs j).length+1:=by rw [ar];simp
  refine bC ?_;refine aa.gb ai I C C C C C C C en C C C C C C C C aY hi j9 ag (fun bT I=>?_);refine fG ?_;refine bn.mk (j+1,.own bT) I au kq (by show aH _ [(_,.row _ _ (xs (j+1)).length)] _;rw [df];exact aH.dq _) (by show l.length-(j+1)<l.length-j;omega)
 | false=>
  have ar:xs (j+1)=xs j:=by rw [ar,av];simp
  refine bC ?_;refine bn.mk (j+1,own) I au kq (by show aH _ [(_,.row _ _ (xs (j+1)).length)] _;rw [ar];exact aH.dq _) (by show l.length-(j+1)<l.length-j;omega)
theorem S5 (y:Int):eA Tryz.prog (.func 316 [] []) [.int .i64 y] (.bool (y != 0)):=by
 refine eA.fk (first:=[]) (cap:=[]) ?_;refine aR.bh ai Tryz.func316 C C fun s I=>?_
 refine gv ?_;exact bl I
theorem S6 (l:List Int) (aB:l.length<bz):aR Tryz.prog 306 [bf l] (bf (fq 0 l)):=by
 refine aR.bh ai Tryz.func306 C C fun s I=>?_
 refine dv ?_;refine aa.eg C C C C C (KJ _ _ S5 l aB) ?_;refine eu ?_;exact bl I
theorem F7 (l:List Int) (n:Int) (aB:l.length<bz):aR Tryz.prog 272 [bf l,.int .i64 n] (bf (fq n l)):=by
 have aq:=bA;obtain ⟨xs,c5⟩:∃ xs:Nat→List af,∀ j,xs j=(fq n (l.take j)).map ba:=⟨_,fun _=>rfl⟩;have bt:xs 0=[]:=by rw [c5];rfl
 have fc:∀ j,(xs j).length≤l.length:=fun j=>by
  rw [c5,length_map];exact le_trans (xQ _ _) (length_take_le' _ _)
 refine aR.bh ai Tryz.func272 C C fun s I=>?_
 unfold bf;refine gm ?_;refine ae.h7 I 3 1 0 fun I=>?_
 refine ae.b4 [0,1] C I (σ:=Nat×bL) (fun q=>[(6,.int .i64 (q.1:Int)),(5,.aA 1 (xs q.1) q.2)]) (fun q=>[(q.2,.row 3 1 (xs q.1).length)]) (fun q=>q.1≤l.length) (fun q=>l.length-q.1) (0,.nil) (zero_le _) ⟨⟨_,rfl,aL⟩,⟨_,rfl,by rw [bt];exact aS.nil gW⟩,trivial⟩ (by rw [bt];exact aH.dq _) ?_;rintro ⟨j,own⟩ aK I;simp only at aK I ⊢;refine b7 ?_;refine ae.cond C (fun au=>?_) (fun aV=>?_);rotate_left;have aV:j=l.length:=by
  have:l.length≤j:=by simpa using aV
  omega
 ·subst aV
  have he:xs l.length=(fq n l).map ba:=by rw [c5,take_length]
  rw [he];refine dN ?_;exact Fin.cx I C aS.bb
 have au:j<l.length:=by simpa using au
 obtain ⟨y,ay,da⟩:=b1 (f:=ba) au;have ar:=c5 (j+1);unfold fq at ar;rw [KI _ ay,map_append] at ar;have ar:xs (j+1)=xs j++List.map ba (if y != n then [y] else []):=by rw [ar,c5];rfl
 have lC:=fc j;unfold ba at da;refine dF ?_;refine ae.cond C (fun av=>?_) (fun av=>?_)
 ·have av:(y != n)=true:=by simpa using av
  have ar:xs (j+1)=xs j++[.int .i64 y]:=by rw [ar,av];rfl
  have df:(xs (j+1)).length=(xs j).length+1:=by rw [ar];simp
  refine dF ?_;refine aa.gb ai I C C C C C C C en C C C C C C C C aY hi j9 ag (fun bT I=>?_);refine fG ?_;refine bn.mk (j+1,.own bT) I au kq (by show aH _ [(_,.row _ _ (xs (j+1)).length)] _;rw [df];exact aH.dq _) (by show l.length-(j+1)<l.length-j;omega)
 ·have av:(y != n)=false:=by simpa using av
  have ar:xs (j+1)=xs j:=by rw [ar,av];simp
  refine gd ?_;refine bn.mk (j+1,own) I au kq (by show aH _ [(_,.row _ _ (xs (j+1)).length)] _;rw [ar];exact aH.dq _) (by show l.length-(j+1)<l.length-j;omega)
theorem KK (g:List (List Int)) (aw:g.length<bz):aR Tryz.prog 274 [c9 g] (.bool (mf g)):=by
 have aq:=bA;refine aR.bh ai Tryz.func274 C C fun s I=>?_
 unfold c9;unfold mf;refine b7 ?_;refine ae.cond C (fun h=>?_) (fun h=>?_)
 ·have U:decide (g.length≤16)=false:=by simp at h ⊢;omega
  rw [U];refine gv ?_;exact bl I
 have U:decide (g.length≤16)=true:=by simp at h ⊢;omega
 have nD:g.length≤16:=of_decide_eq_true U;rw [U,Bool.true_and];refine jb ?_;refine ae.b4 [10,11] C I (σ:=Nat) (fun j=>[(12,.int .i64 (j:Int))]) (fun _=>[]) (fun j=>j≤g.length∧nQ 0 g=nQ j (g.drop j)) (fun j=>g.length-j) 0 ⟨zero_le _,rfl⟩ (cq C) aX ?_;rintro j ⟨aK,an⟩ I;refine b7 ?_;refine ae.cond C (fun au=>?_) (fun aV=>?_);rotate_left;have aV:j=g.length:=by
  have:g.length≤j:=by simpa using aV
  omega
 ·rw [ep ag,nQ] at an
  rw [an];refine dN ?_;exact bl I
 have au:j<g.length:=by simpa using au
 obtain ⟨l,ay,da⟩:=b1 (f:=bf) au;rw [drop_cons ay,nQ] at an;unfold bf at da;refine bC ?_;refine ae.cond C (fun h=>?_) (fun h=>?_)
 ·have ad:decide (l.length≤3)=false:=by simp at h ⊢;omega
  rw [an,ad];refine ja ?_;exact bl I
 have ad:decide (l.length≤3)=true:=by simp at h ⊢;omega
 have nE:l.length≤3:=of_decide_eq_true ad;rw [ad,Bool.true_and] at an;refine jb ?_;refine ae.b4 [3,4,10,11,12,20,21] C I (σ:=Nat) (fun k=>[(22,.int .i64 (k:Int))]) (fun _=>[]) (fun k=>k≤l.length∧me 3 j [] l=me 3 j (l.take k) (l.drop k)) (fun k=>l.length-k) 0 ⟨zero_le _,rfl⟩ (cq C) aX ?_;rintro k ⟨aE,bg⟩ I;refine b7 ?_;refine ae.cond C (fun cz=>?_) (fun dr=>?_);rotate_left
 ·have dr:l.length≤k:=by simpa using dr
  rw [ep dr,me] at bg;rw [bg,Bool.true_and] at an;refine bC ?_;refine bn.mk (j+1) I ⟨au,an⟩ ca aX sO
 have cz:k<l.length:=by simpa using cz
 obtain ⟨c,aC,mM⟩:=b1 (f:=ba) cz;rw [drop_cons aC,me] at bg;rw [bg] at an;unfold ba at mM;have w:IntKind.wrap .i64 (3+(j:Int))=3+(j:Int):=ek ag ag;refine dF ?_;by_cases al:c<3
 ·rw [decide_eq_false (show ¬ c≥3 by omega),Bool.false_and,Bool.false_and] at an
  refine aa.de 29 C (decide_eq_true al) ?_;refine e1 ?_;rw [an];exact bl I
 rw [decide_eq_true (show c≥3 by omega),Bool.true_and] at an bg;refine aa.cY 29 C (decide_eq_false al) ?_;refine dy ?_;by_cases bd:c≥3+(j:Int)
 ·rw [decide_eq_false (show ¬ c<3+(j:Int) by omega),Bool.false_and] at an
  refine aa.de 35 C (by rw [w];exact decide_eq_true bd) ?_;refine e1 ?_;rw [an];exact bl I
 rw [decide_eq_true (show c<3+(j:Int) by omega),Bool.true_and] at an bg;refine aa.cY 35 C (by rw [w];exact decide_eq_false bd) ?_;have h8:=xX (l.take k) c (by have:=length_take_le' k l;omega);unfold bf at h8;rw [List.map_take] at h8;refine dy ?_;refine aa.slice ai 0 k C C C C C C C C (.inr C) (.inl ⟨rfl,rfl⟩) (.inr ⟨_,_,rfl,rfl⟩) (.inl ⟨rfl,rfl⟩) (zero_le _) (by simpa using aE) ?_;rw [List.drop_zero];refine dy ?_;refine aa.eg C C C C C h8 ?_;cases bD:(l.take k).contains c with
 | true=>
  rw [bD,Bool.not_true,Bool.false_and] at an;refine e1 ?_;rw [an];exact bl I
 | false=>
  rw [bD,Bool.not_false,Bool.true_and,← iA aC] at an bg;refine bC ?_;exact bn.mk (k+1) I ⟨cz,by rw [bg]⟩ ca aX (by show l.length-(k+1)<l.length-k;omega)
theorem S7 (g:List (List Int)) (aw:g.length<bz):aR Tryz.prog 180 [c9 g] (.bool (mf g)):=by
 have aq:=bA;refine aR.bh ai Tryz.func180 C C fun s I=>?_
 unfold c9;unfold mf;refine b7 ?_;refine ae.cond C (fun h=>?_) (fun h=>?_)
 ·have U:decide (g.length≤16)=false:=by simp at h ⊢;omega
  rw [U];refine gv ?_;exact bl I
 have U:decide (g.length≤16)=true:=by simp at h ⊢;omega
 have nD:g.length≤16:=of_decide_eq_true U;rw [U,Bool.true_and];refine jb ?_;refine ae.b4 [0] C I (σ:=Nat) (fun j=>[(3,.int .i64 (j:Int))]) (fun _=>[]) (fun j=>j≤g.length∧nQ 0 g=nQ j (g.drop j)) (fun j=>g.length-j) 0 ⟨zero_le _,rfl⟩ (cq C) aX ?_;rintro j ⟨aK,an⟩ I;refine b7 ?_;refine ae.cond C (fun au=>?_) (fun aV=>?_);rotate_left;have aV:j=g.length:=by
  have:g.length≤j:=by simpa using aV
  omega
 ·rw [ep ag,nQ] at an
  rw [an];refine dN ?_;exact bl I
 have au:j<g.length:=by simpa using au
 obtain ⟨l,ay,da⟩:=b1 (f:=bf) au;rw [drop_cons ay,nQ] at an;unfold bf at da;refine dF ?_;refine ae.cond C (fun h=>?_) (fun h=>?_)
 ·have ad:decide (l.length≤3)=false:=by simp at h ⊢;omega
  rw [an,ad];refine ja ?_;exact bl I
 have ad:decide (l.length≤3)=true:=by simp at h ⊢;omega
 have nE:l.length≤3:=of_decide_eq_true ad;rw [ad,Bool.true_and] at an;refine jb ?_;refine ae.b4 [0,3] C I (σ:=Nat) (fun k=>[(4,.int .i64 (k:Int))]) (fun _=>[]) (fun k=>k≤l.length∧me 3 j [] l=me 3 j (l.take k) (l.drop k)) (fun k=>l.length-k) 0 ⟨zero_le _,rfl⟩ (cq C) aX ?_;rintro k ⟨aE,bg⟩ I;refine dF ?_;refine ae.cond C (fun cz=>?_) (fun dr=>?_);rotate_left
 ·have dr:l.length≤k:=by simpa using dr
  rw [ep dr,me] at bg;rw [bg,Bool.true_and] at an;refine bC ?_;refine bn.mk (j+1) I ⟨au,an⟩ ca aX sO
 have cz:k<l.length:=by simpa using cz
 obtain ⟨c,aC,mM⟩:=b1 (f:=ba) cz;rw [drop_cons aC,me] at bg;rw [bg] at an;have h8:=KH (l.take k) c (by have:=length_take_le' k l;omega);unfold bf at h8;rw [List.map_take] at h8;unfold ba at mM;have w:IntKind.wrap .i64 (3+(j:Int))=3+(j:Int):=ek ag ag;refine jb ?_;refine ae.qn ai mixed C (bc.runs (is:=[0,1,4]) C ?_);refine bc.idx 2 j C C C C C C C C C C C C C da C ?_;refine bc.runs (is:=[3]) C ?_;refine bc.idx 5 k C C C C C C C C C C C C C mM C ?_;refine bc.runs (is:=[6,7,8]) C ?_;by_cases al:c<3
 ·rw [decide_eq_false (show ¬ c≥3 by omega),Bool.false_and,Bool.false_and] at an
  refine bc.de 37 C (decide_eq_true al) ?_;refine bc.run C (bc.done C ?_);refine e1 ?_;rw [an];exact bl I
 rw [decide_eq_true (show c≥3 by omega),Bool.true_and] at an bg;refine bc.cY 37 C (decide_eq_false al) ?_;refine bc.runs (is:=[9,10,13,16,17]) C ?_;refine bc.idx 11 j C C C C C C C C C C C C C da C ?_;refine bc.runs (is:=[12]) C ?_;refine bc.idx 14 k C C C C C C C C C C C C C mM C ?_;refine bc.runs (is:=[15,18,19,20]) C ?_;by_cases bd:c≥3+(j:Int)
 ·rw [decide_eq_false (show ¬ c<3+(j:Int) by omega),Bool.false_and] at an
  refine bc.de 49 C (by rw [w];exact decide_eq_true bd) ?_;refine bc.run C (bc.done C ?_);refine e1 ?_;rw [an];exact bl I
 rw [decide_eq_true (show c<3+(j:Int) by omega),Bool.true_and] at an bg;refine bc.cY 49 C (by rw [w];exact decide_eq_false bd) ?_;refine bc.run C ?_;refine bc.idx 23 j C C C C C C C C C C C C C da C ?_;refine bc.idx 29 j C C C C C C C C C C C C C da C ?_;refine bc.run C ?_;refine bc.idx 32 k C C C C C C C C C C C C C mM C ?_;refine bc.slice 26 0 k C C C C C C C C C C (.inr C) (.inl ⟨rfl,rfl⟩) (.inr ⟨_,_,rfl,rfl⟩) (.inl ⟨rfl,rfl⟩) (zero_le _) (by simpa using aE) ?_;rw [List.drop_zero];refine bc.run C ?_;refine bc.CD (i:=34) C C C C C C C h8 ?_;refine bc.run C ?_;refine bc.done C ?_;cases bD:(l.take k).contains c with
 | true=>
  rw [bD,Bool.not_true,Bool.false_and] at an;refine e1 ?_;rw [an];exact bl I
 | false=>
  rw [bD,Bool.not_false,Bool.true_and,← iA aC] at an bg;refine bC ?_;exact bn.mk (k+1) I ⟨cz,by rw [bg]⟩ ca aX (by show l.length-(k+1)<l.length-k;omega)
theorem S8 (all:List (List Int)) (c:Int) (aB:all.length<bz) (a7:∀ l∈all,l.length<bz):aR Tryz.prog 273 [c9 all,.int .i64 c] (.bool (free all c)):=by
 have aq:=bA;refine aR.bh ai Tryz.func273 C C fun s I=>?_
 unfold c9;refine gm ?_;refine ae.b4 [0,1] C I (σ:=Nat) (fun j=>[(5,.int .i64 (j:Int))]) (fun _=>[]) (fun j=>j≤all.length∧free all c=free (all.drop j) c) (fun j=>all.length-j) 0 ⟨zero_le _,rfl⟩ (cq C) aX ?_;rintro j ⟨aK,an⟩ I;refine b7 ?_;refine ae.cond C (fun au=>?_) (fun aV=>?_);rotate_left;have aV:j=all.length:=by
  have:all.length≤j:=by simpa using aV
  omega
 ·rw [ep ag] at an
  rw [an];refine dN ?_;exact bl I
 have au:j<all.length:=by simpa using au
 obtain ⟨l,ay,da⟩:=b1 (f:=bf) au;rw [drop_cons ay] at an;have mg:=a7 l (mem_of_getElem? ay);have an:free all c=(!(l.drop 1).contains c&&free (all.drop (j+1)) c):=an;have h8:=KH (l.drop 1) c cG;unfold bf at h8 da;rw [List.map_drop] at h8;refine dF ?_;cases l with
 | nil=>
  refine aa.cY 18 C C ?_;refine bC ?_;refine bn.mk (j+1) I ⟨au,an⟩ ca aX (by show all.length-(j+1)<all.length-j;omega)
 | cons x r=>
  refine aa.de 18 C a' ?_;refine dF ?_;refine aa.slice ai 1 ((x::r).map ba).length C C C C C C C C (.inr C) (.inr ⟨_,_,rfl,rfl⟩) (.inl ⟨rfl,rfl,rfl⟩) (.inl ⟨rfl,rfl⟩) a' (Nat.le_refl _) ?_;rw [take_length];refine dy ?_;refine aa.eg C C C C C h8 ?_;cases bD:((x::r).drop 1).contains c with
  | true=>
   rw [bD,Bool.not_true,Bool.false_and] at an;rw [an];refine e1 ?_;exact bl I
  | false=>
   rw [bD,Bool.not_false,Bool.true_and] at an;refine bC ?_;refine bn.mk (j+1) I ⟨au,an⟩ ca aX (by show all.length-(j+1)<all.length-j;omega)
structure qC (n b:Nat) (all:List (List Int)):Prop where
 len:all.length≤n
 each:∀ l∈all,l.length≤b∧∀ c∈l,0≤c
theorem qC.fq {n b:Nat} {all:List (List Int)} (h:qC n b all) (c:Int):qC n b (all.map (fq c)):=by
 refine ⟨by rw [length_map];exact h.len,fun l aB=>?_⟩;obtain ⟨k9,U,rfl⟩:=mem_map.1 aB;obtain ⟨ad,al⟩:=h.each k9 U;exact ⟨le_trans (xQ _ _) ad,fun c aC=>al c (mem_filter.1 aC).1⟩
theorem C6 {n b:Nat} {all:List (List Int)} (h:qC n b all):total all≤n*b:=by
 obtain ⟨U,ad⟩:=h;have:total all≤all.length*b:=by
  clear U
  induction all with
  | nil=>simp [total]
  | cons l r a1=>
   have al:=(ad l mem_cons_self).1;have bd:=a1 (fun x ab=>ad x (mem_cons_of_mem _ ab));have bD:total (l::r)=l.length+total r:=rfl;rw [bD,length_cons,Nat.add_mul];omega
 exact le_trans this (Nat.mul_le_mul_right _ U)
theorem KL {all l:List (List Int)} {j:Nat} (h:l[j]? = some []):pick all (l.drop j)=pick all (l.drop (j+1)):=by
 rw [drop_cons h];rfl
theorem KM {all l:List (List Int)} {j:Nat} {c:Int} {r:List Int} (h:l[j]? = some (c::r)):pick all (l.drop j)=if free all c then some c else pick all (l.drop (j+1)):=by
 rw [drop_cons h];rfl
theorem S9 (n b:Nat) (iY:n<1000∧b<1000) (all:List (List Int)) (hm:qC n b all):aR Tryz.prog 252 [c9 all] (.cp [bf (merged all).1,.bool (merged all).2]):=by
 have aq:=bA;refine aR.bh ai Tryz.func252 C C fun s I=>?_
 unfold c9;have wa:total all≤n*b:=C6 hm;have S':n*b≤1000*1000:=Nat.mul_le_mul ag ag;refine gm ?_;refine ae.h7 I 3 1 0 fun I=>?_
 refine ae.b4 [] C I (σ:=Nat×List (List Int)×List Int×bL) (fun q=>[(0,.aA 1 (q.2.1.map bf) .bb),(4,.aA 1 (q.2.2.1.map ba) q.2.2.2)]) (fun q=>[(q.2.2.2,.row 3 1 q.2.2.1.length)])
  (fun q=>merge q.1 q.2.1 q.2.2.1=merged all∧total q.2.1<q.1∧qC n b q.2.1∧q.2.2.1.length+total q.2.1≤total all) (fun q=>q.1) (total all+1,all,[],.nil) ⟨rfl,Nat.lt_succ_self _,hm,by simp⟩ ⟨⟨_,rfl,aL⟩,⟨_,rfl,aS.nil gW⟩,trivial⟩ (aH.dq _) ?_
 rintro ⟨k,cur,acc,own⟩ ⟨dV,hA,hm,tT⟩ I;simp only at dV hA hm tT I ⊢;have cv:=hm.len;refine gm ?_;refine ae.b4 [0,4] C I (σ:=Nat×Int×Bool) (fun z=>[(5,.int .i64 z.2.1),(6,.bool z.2.2),(7,.int .i64 (z.1:Int))]) (fun _=>[(own,.row 3 1 acc.length)])
  (fun z=>z.1≤cur.length∧((z.2.1 = -1∧pick cur cur=pick cur (cur.drop z.1)∧(!z.2.2)=(cur.take z.1).all isEmpty)∨(0≤z.2.1∧pick cur cur=some z.2.1))) (fun z=>cur.length-z.1+if z.2.1<0 then 1 else 0) (0,-1,false) ⟨zero_le _,.inl ⟨rfl,rfl,rfl⟩⟩ (cq C) (aH.dq _) ?_
 rintro ⟨j,gA,F8⟩ ⟨aK,an⟩ I;simp only at aK an I ⊢;refine jS ?_;by_cases au:j<cur.length
 ·refine aa.de 14 C (by simpa using au) ?_
  refine fH ?_;refine ae.cond C (fun az=>?_) (fun az=>?_)
  ·have az:gA<0:=of_decide_eq_true az
   obtain ⟨rfl,an,hD⟩:gA = -1∧_:=by
    rcases an with h|h
    ·exact h
    ·omega
   obtain ⟨l,ay,da⟩:=b1 (f:=bf) au;have KN:=hm.each l (mem_of_getElem? ay);have Fo:=fun c=>S8 cur c ag (fun l aB=>by have:=(hm.each l aB).1;omega)
   unfold c9 at Fo;unfold bf at da;have z7:(cur.take (j+1)).all isEmpty=((cur.take j).all isEmpty&&l.isEmpty):=by rw [iA ay,List.all_append];simp
   refine dF ?_;cases l with
   | nil=>
    rw [KL ay] at an;refine ae.gP C ?_;refine gd ?_;exact bn.mk (j+1,-1,F8) I ⟨au,.inl ⟨rfl,an,by rw [z7,← hD];simp⟩⟩ ca (aH.dq _) (by show cur.length-(j+1)+1<cur.length-j+1;omega)
   | cons c r=>
    rw [KM ay] at an;refine ae.cond C (fun _=>?_) (fun h=>absurd h a');have KO:((c::r).map ba)[0]? = some (.int .i64 c):=rfl;refine bC ?_;refine aa.eg C C C C C (Fo c) ?_;cases pg:free cur c with
    | true=>
     rw [pg,if_pos C] at an;have BX:=KN.2 c mem_cons_self;refine bC ?_;exact bn.mk (j+1,c,true) I ⟨au,.inr ⟨BX,an⟩⟩ ca (aH.dq _) (by show cur.length-(j+1)+(if c<0 then 1 else 0)<cur.length-j+1;split<;>omega)
    | false=>
     rw [pg,if_neg a'] at an;refine bC ?_;exact bn.mk (j+1,-1,true) I ⟨au,.inl ⟨rfl,an,by rw [z7];simp⟩⟩ ca (aH.dq _) (by show cur.length-(j+1)+1<cur.length-j+1;omega)
  ·have az:¬ gA<0:=of_decide_eq_false az
   obtain ⟨xY,wb⟩:0≤gA∧pick cur cur=some gA:=by
    rcases an with h|h
    ·omega
    ·exact h
   have kv:¬ gA<0:=by omega
   refine dN ?_;refine ae.cond C (fun h=>absurd (of_decide_eq_true h) kv) (fun _=>?_);cases k with
   | zero=>omega
   | succ k=>
   have KP:=CS (ud wb);rw [merge,wb] at dV;simp only at dV;refine dF ?_;refine aa.gb ai I C C C C C C C en C C C C C C C C aY hi j9 ag (fun bT I=>?_);refine bC ?_;obtain ⟨xs,c5⟩:∃ xs:Nat→List af,∀ j,xs j=((cur.take j).map (fq gA)).map bf:=⟨_,fun _=>rfl⟩;have bt:xs 0=[]:=by rw [c5];rfl
   have fc:∀ j,(xs j).length≤cur.length:=fun j=>by
    rw [c5,length_map,length_map];exact length_take_le' _ _
   refine ae.h7 I 23 1 0 fun I=>?_
   refine ae.b4 [0,4,5] C I (σ:=Nat×bL) (fun q=>[(9,.int .i64 (q.1:Int)),(8,.aA 1 (xs q.1) q.2)]) (fun q=>[(q.2,.row 23 1 (xs q.1).length),(.own bT,.row 3 1 (acc.length+1))]) (fun q=>q.1≤cur.length) (fun q=>cur.length-q.1) (0,.nil) (zero_le _) ⟨⟨_,rfl,aL⟩,⟨_,rfl,by rw [bt];exact aS.nil gW⟩,trivial⟩ FE ?_;rintro ⟨i,uf⟩ aQ I;simp only at aQ I ⊢;refine b7 ?_;refine ae.cond C (fun jV=>?_) (fun kx=>?_)
   ·have jV:i<cur.length:=by simpa using jV
    obtain ⟨l,ay,da⟩:=b1 (f:=bf) jV;have ar:=c5 (i+1);rw [iA ay,map_append,map_append,← c5] at ar;have ar:xs (i+1)=xs i++[.aA 1 ((fq gA l).map ba) .bb]:=ar;have df:(xs (i+1)).length=(xs i).length+1:=by rw [ar];simp
    have lC:=fc i;have hw:=F7 l gA (by have:=(hm.each l (mem_of_getElem? ay)).1;omega);unfold bf at da hw;refine dF ?_;refine aa.eg C C C C C hw ?_;refine dy ?_;refine aa.gb ai I C C C C C C C en C C C C C C C C aY hi px ag (fun ff I=>?_);refine fG ?_;exact bn.mk (i+1,.own ff) I jV kq (by show aH _ [(_,.row _ _ (xs (i+1)).length),_] _;rw [df];exact aH.dq _) FH
   ·have kx:i=cur.length:=by
     have:cur.length≤i:=by simpa using kx
     omega
    subst kx;have he:xs cur.length=(cur.map (fq gA)).map bf:=by rw [c5,take_length]
    rw [he] at I ⊢;refine bC ?_;exact bn.mk (k,cur.map (fq gA),acc++[gA],.own bT) I ⟨dV,by show total (cur.map (fq gA))<k;omega,hm.fq gA,by show (acc++[gA]).length+total (cur.map (fq gA))≤total all;rw [length_append,length_singleton];omega⟩ ⟨⟨_,rfl,aS.bb⟩,⟨_,rfl,aS.of_eq (by simp [ba])⟩,trivial⟩ (by show aH _ [(_,.row _ _ (acc++[gA]).length)] _;rw [length_append,length_singleton];exact (aH.dq _).there) (by show k<k+1;omega)
 ·refine aa.cY 14 C (by simpa using au) ?_
  have aV:j=cur.length:=by omega
  rcases an with ⟨rfl,an,hD⟩|⟨xY,wb⟩
  ·rw [ep ag] at an
   rw [aV,take_length] at hD;cases k with
   | zero=>omega
   | succ k=>
    rw [merge,an] at dV;have dV:(acc,cur.all isEmpty)=merged all:=dV;rw [← dV,← hD];refine bC ?_;exact Fin.cx I C (aS.cp (.cons aS.bb (.one aL)))
  ·have kv:¬ gA<0:=by omega
   refine bC ?_;refine ae.cond C (fun h=>absurd (of_decide_eq_true h) kv) (fun _=>?_);cases k with
   | zero=>omega
   | succ k=>
   have KP:=CS (ud wb);rw [merge,wb] at dV;simp only at dV;refine dF ?_;refine aa.gb ai I C C C C C C C en C C C C C C C C aY hi j9 ag (fun bT I=>?_);refine bC ?_;obtain ⟨xs,c5⟩:∃ xs:Nat→List af,∀ j,xs j=((cur.take j).map (fq gA)).map bf:=⟨_,fun _=>rfl⟩;have bt:xs 0=[]:=by rw [c5];rfl
   have fc:∀ j,(xs j).length≤cur.length:=fun j=>by
    rw [c5,length_map,length_map];exact length_take_le' _ _
   refine ae.h7 I 23 1 0 fun I=>?_
   refine ae.b4 [0,4,5] C I (σ:=Nat×bL) (fun q=>[(9,.int .i64 (q.1:Int)),(8,.aA 1 (xs q.1) q.2)]) (fun q=>[(q.2,.row 23 1 (xs q.1).length),(.own bT,.row 3 1 (acc.length+1))]) (fun q=>q.1≤cur.length) (fun q=>cur.length-q.1) (0,.nil) (zero_le _) ⟨⟨_,rfl,aL⟩,⟨_,rfl,by rw [bt];exact aS.nil gW⟩,trivial⟩ FE ?_;rintro ⟨i,uf⟩ aQ I;simp only at aQ I ⊢;refine b7 ?_;refine ae.cond C (fun jV=>?_) (fun kx=>?_)
   ·have jV:i<cur.length:=by simpa using jV
    obtain ⟨l,ay,da⟩:=b1 (f:=bf) jV;have ar:=c5 (i+1);rw [iA ay,map_append,map_append,← c5] at ar;have ar:xs (i+1)=xs i++[.aA 1 ((fq gA l).map ba) .bb]:=ar;have df:(xs (i+1)).length=(xs i).length+1:=by rw [ar];simp
    have lC:=fc i;have hw:=F7 l gA (by have:=(hm.each l (mem_of_getElem? ay)).1;omega);unfold bf at da hw;refine dF ?_;refine aa.eg C C C C C hw ?_;refine dy ?_;refine aa.gb ai I C C C C C C C en C C C C C C C C aY hi px ag (fun ff I=>?_);refine fG ?_;exact bn.mk (i+1,.own ff) I jV kq (by show aH _ [(_,.row _ _ (xs (i+1)).length),_] _;rw [df];exact aH.dq _) FH
   ·have kx:i=cur.length:=by
     have:cur.length≤i:=by simpa using kx
     omega
    subst kx;have he:xs cur.length=(cur.map (fq gA)).map bf:=by rw [c5,take_length]
    rw [he] at I ⊢;refine bC ?_;exact bn.mk (k,cur.map (fq gA),acc++[gA],.own bT) I ⟨dV,by show total (cur.map (fq gA))<k;omega,hm.fq gA,by show (acc++[gA]).length+total (cur.map (fq gA))≤total all;rw [length_append,length_singleton];omega⟩ ⟨⟨_,rfl,aS.bb⟩,⟨_,rfl,aS.of_eq (by simp [ba])⟩,trivial⟩ (by show aH _ [(_,.row _ _ (acc++[gA]).length)] _;rw [length_append,length_singleton];exact (aH.dq _).there) (by show k<k+1;omega)
structure rD (g:List (List Int)):Prop where
 len:g.length≤16
 par:∀ (i:Nat) (l:List Int),g[i]? = some l→l.length≤3∧∀ c∈l,3≤c∧c<3+(i:Int)
theorem KQ {f i:Int}:∀ {l seen:List Int},me f i seen l=true→∀ c∈l,f≤c∧c<f+i
  | [],_,_,c,aC=>by cases aC
  | d::r,seen,h,c,aC=>by
    rw [me] at h;simp only [and_eq_true,decide_eq_true_eq] at h;rcases mem_cons.1 aC with rfl|aC
    · exact ⟨h.1,h.2.1⟩
    · exact KQ h.2.2.2 c aC
theorem KR:∀ {g:List (List Int)} {k:Nat},nQ k g=true→∀ i l,g[i]? = some l→l.length≤3∧∀ c∈l,3≤c∧c<3+((k+i:Nat):Int)
  | [],_,_,i,l,aB=>by simp at aB
  | x::r,k,h,i,l,aB=>by
    rw [nQ] at h;simp only [and_eq_true,decide_eq_true_eq] at h;cases i with
    | zero=>
      cases aB;exact ⟨h.1,fun c aC=>by have:=KQ h.2.1 c aC;omega⟩
    | succ i=>
      have:=KR h.2.2 i l aB;rw [show k+1+i=k+(i+1) by omega] at this;exact this
theorem z8 {g:List (List Int)} (h:mf g=true):rD g:=by
 unfold mf at h;simp only [and_eq_true,decide_eq_true_eq] at h;refine ⟨h.1,fun i l aB=>?_⟩;have:=KR h.2 i l aB;simpa using this
theorem rD.parents {g:List (List Int)} (h:rD g) (c:Nat):(parents g c).length≤3∧∀ p∈parents g c,3≤p∧p<(c:Int):=by
 unfold Go.eb.parents;by_cases aC:c<3
 ·rw [if_pos aC];exact ⟨by simp,fun p aD=>by cases aD⟩
 ·rw [if_neg aC,getD_eq_getElem?_getD]
  cases aB:g[c-3]? with
  | none=>exact ⟨by simp,fun p aD=>by simp at aD⟩
  | some l=>
   obtain ⟨U,ad⟩:=h.par _ _ aB;exact ⟨U,fun p aD=>by have:=ad p aD;omega⟩
structure aa7 (n:Nat) (l:List Int):Prop where
 len:l.length≤n
 pos:∀ c∈l,0≤c
theorem F9:∀ (k:Nat) (all:List (List Int)) (acc:List Int),(merge k all acc).1.length≤acc.length+total all
  | 0,_,acc=>by rw [merge];exact Nat.le_add_right _ _
  | k+1,all,acc=>by
    rw [merge];cases aD:pick all all with
    | none=>exact Nat.le_add_right _ _
    | some d=>
      simp only;have U:=F9 k (all.map (fq d)) (acc++[d]);have ad:=CS (ud aD);rw [length_append,length_singleton] at U;omega
theorem Ta (g:List (List Int)) (aw:g.length<bz) (c:Nat) (aC:c<3+g.length):aR Tryz.prog 271 [c9 g,.int .i64 (c:Int)] (bf (parents g c)):=by
 have aq:=bA;refine aR.bh ai Tryz.func271 C C fun s I=>?_
 unfold c9 parents;refine b7 ?_;refine ae.cond C (fun h=>?_) (fun h=>?_)
 ·have h:c<3:=by have:=of_decide_eq_true h;omega
  rw [if_pos h];refine gv ?_;exact Fin.cx I C (aS.nil gW)
 ·have h:¬ c<3:=by have:=of_decide_eq_false h;omega
  obtain ⟨l,ay,da⟩:=b1 (f:=bf) (l:=g) (j:=c-3) ag;rw [if_neg h,getD_eq_getElem?_getD,ay];unfold bf at da;refine dF ?_;refine aa.idx ai (c-3) C C C C C C C C C C FG da C ?_;refine eu ?_;exact bl I
theorem KS {o:List (List Int)}:∀ {l:List Int} {r:List (List Int)},iO o l=some r→r.length=l.length
  | [],r,h=>by cases h;rfl
  | p::q,r,h=>by
    rw [iO] at h;split at h
    · cases h
    · cases bq:iO o q with
      | none=>rw [bq] at h;cases h
      | some t=>
        rw [bq] at h;cases h;rw [length_cons,KS bq,length_cons]
def pre (x:Option (List (List Int))) (a:List (List Int)):Option (List (List Int)):=x.map fun l=>a++l
theorem KT (x:Option (List (List Int))):pre x []=x:=by cases x<;>rfl
theorem KU (o:List (List Int)) (a:List (List Int)) (p:Int) (q:List Int):pre (iO o (p::q)) a=if (o.getD p.toNat []).isEmpty then none else pre (iO o q) (a++[fq 0 (o.getD p.toNat [])]):=by
 unfold pre;rw [iO];split
 ·rfl
 ·cases iO o q<;>simp
def ug:Option (List (List Int))→af
 | some l => .cp [c9 l,.bool true]
 | none => .cp [c9 [],.bool false]
theorem Tb (g:List (List Int)) (aw:rD g) (o:List (List Int)) (c:Nat) (aC:c<3+g.length) (ah:c≤o.length) (gn:o.length<100) (z':∀ l∈o,l.length<1000) :
  aR Tryz.prog 251 [c9 g,c9 o,.int .i64 (c:Int)] (ug (lists g o c)):=by
 have aq:=bA;have jF:=aw.len;have aD:=Ta g ag c aC;obtain ⟨rE,oR⟩:=aw.parents c;unfold lists;generalize parents g c=l at aD rE oR ⊢;refine aR.bh ai Tryz.func251 C C fun s I=>?_
 unfold c9 at aD ⊢;unfold bf at aD;refine dv ?_;refine aa.eg C C C C C aD ?_;refine bC ?_;refine ae.h7 I 23 1 0 fun I=>?_
 refine ae.b4 [1,9] C I (σ:=Nat×List (List Int)×bL) (fun q=>[(10,.int .i64 (q.1:Int)),(8,.aA 1 (q.2.1.map bf) q.2.2)]) (fun q=>[(q.2.2,.row 23 1 q.2.1.length)]) (fun q=>q.1≤l.length∧q.2.1.length=q.1∧iO o l=pre (iO o (l.drop q.1)) q.2.1) (fun q=>l.length-q.1) (0,[],.nil) ⟨zero_le _,rfl,(KT _).symm⟩ ⟨⟨_,rfl,aL⟩,⟨_,rfl,aS.nil gW⟩,trivial⟩ (aH.dq _) ?_;rintro ⟨j,acc,own⟩ ⟨aK,pB,an⟩ I;simp only at aK pB an I ⊢;refine b7 ?_;refine ae.cond C (fun au=>?_) (fun aV=>?_);rotate_left
 ·have aV:l.length≤j:=by simpa using aV
  rw [ep aV] at an;have an:iO o l=some (acc++[]):=an;rw [an,append_nil];have F':ug (Option.map (fun x=>x++[l]) (some acc)) = .cp [.aA 1 (acc.map bf++[.aA 1 (l.map ba) .bb]) .bb,.bool true]:=by
   show af.cp [.aA 1 ((acc++[l]).map bf) .bb,.bool true]=_;rw [map_append];rfl
  rw [F'];refine bC ?_;refine aa.gb ai I C C C C C C C en C C C C C C C C aY hi px ag (fun bT I=>?_);refine eu ?_;exact Fin.cx I C (aS.cp (.cons aS.bb (.one aL)))
 have au:j<l.length:=by simpa using au
 obtain ⟨p,ay,da⟩:=b1 (f:=ba) au;rw [drop_cons ay,KU] at an;obtain ⟨KV,aa8⟩:=oR p (mem_of_getElem? ay);have h4:p.toNat<o.length:=by omega
 have Ga:o[p.toNat]? = some (o.getD p.toNat []):=by rw [getD_eq_getElem?_getD,getElem?_eq_getElem h4];rfl
 have nm:=z' _ (mem_of_getElem? Ga);have C7:(o.map bf)[p.toNat]? = some (bf (o.getD p.toNat [])):=by rw [getElem?_map,Ga];rfl
 generalize o.getD p.toNat []=ol at an Ga nm C7;have Aa:p=(p.toNat:Int):=by omega
 have hw:=F7 ol 0 ag;unfold ba at da;unfold bf at C7 hw;refine dF ?_;refine aa.idx ai p.toNat C C C C C C C C C C Aa C7 C ?_;refine fH ?_;cases ol with
 | nil=>
  have an:iO o l=none:=an;rw [an];refine ae.ft C ?_;refine ja ?_;exact Fin.cx I C (aS.cp (.cons (aS.nil gW) (.one aL)))
 | cons x r=>
  refine ae.cond C (fun h=>absurd h cG) (fun _=>?_);refine dF ?_;refine aa.idx ai p.toNat C C C C C C C C C C Aa C7 C ?_;refine dy ?_;refine aa.eg C C C C C hw ?_;refine dy ?_;refine aa.gb ai I C C C C C C C en C C C C C C C C aY hi px ag (fun bT I=>?_);refine fG ?_;exact bn.mk (j+1,acc++[fq 0 (x::r)],.own bT) I ⟨au,by rw [length_append,pB];rfl,an⟩ xO (by show aH _ [(_,.row _ _ (acc++[fq 0 (x::r)]).length)] _;rw [length_append,length_singleton];exact aH.dq _) (by show l.length-(j+1)<l.length-j;omega)
theorem ae.Ab {P:Program} {N:Nat} {Q:b8→Env→ao→Prop} {env:Env} {s:ao} {c:Code} {L:a8} (I:Ok s L) (e:TypeId) (sz n:Nat) (h:Ok s ((.clip,.row e sz n)::L)→ae P N c Q env (aT s ((.clip,.row e sz n)::L))):ae P N c Q env (aT s L):=h ⟨trivial,I⟩
theorem aa.Ab {P:Program} {N:Nat} {ops:Array Oper} {Q:b8→Env→ao→Prop} {env:Env} {s:ao} {l:List Oper} {L:a8} (I:Ok s L) (e:TypeId) (sz n:Nat) (h:Ok s ((.clip,.row e sz n)::L)→aa P N ops l Q env (aT s ((.clip,.row e sz n)::L))):aa P N ops l Q env (aT s L):=h ⟨trivial,I⟩
theorem Gb:∀ (n:Nat) (l:List Int),l.Nodup→(∀ c∈l,0≤c∧c<(n:Int))→l.length≤n
  | 0,[],_,_=>Nat.le_refl _
  | 0,c::r,_,h=>by have:=h c mem_cons_self;omega
  | n+1,l,ax,h=>by
    by_cases hm:(n:Int)∈l
    · have U:=Gb n (l.erase (n:Int)) (ax.erase _) (fun c aC=>by
        obtain ⟨ad,al⟩:=ax.mem_erase_iff.1 aC
        have:=h c al
        omega)
      rw [List.length_erase_of_mem hm] at U;omega
    · have:=Gb n l ax (fun c aC=>by
        have U:=h c aC
        have:c≠(n:Int):=fun e=>hm (e ▸ aC)
        omega)
      omega
theorem KW:∀ (k:Nat) (all:List (List Int)) (acc:List Int),acc.Nodup→(∀ c∈acc,∀ l∈all,c∉l)→(merge k all acc).1.Nodup
  | 0,_,_,h,_=>h
  | k+1,all,acc,h,ax=>by
    rw [merge];cases aD:pick all all with
    | none=>exact h
    | some d=>
      simp only;obtain ⟨t,aM⟩:=ud aD;refine KW k _ _ ?_ ?_
      · rw [List.nodup_append]
        exact ⟨h,by simp,fun a a7 b aq=>by
          rw [mem_singleton] at aq;subst aq
          intro e;subst e
          exact ax a a7 _ aM mem_cons_self⟩
      · intro c aC l aB
        obtain ⟨k9,U,rfl⟩:=mem_map.1 aB;unfold fq;rw [mem_filter];rintro ⟨ad,al⟩;rcases mem_append.1 aC with aC|aC
        · exact ax c aC k9 U ad
        · rw [mem_singleton] at aC;subst aC;simp at al
theorem KX {q:Int→Prop}:∀ (k:Nat) (all:List (List Int)) (acc:List Int),(∀ l∈all,∀ c∈l,q c)→(∀ c∈acc,q c)→∀ c∈(merge k all acc).1,q c
  | 0,_,acc,_,h=>h
  | k+1,all,acc,a7,h=>by
    rw [merge];cases aD:pick all all with
    | none=>exact h
    | some d=>
      simp only;refine KX k _ _ (fun l aB c aC=>?_) (fun c aC=>?_)
      · obtain ⟨k9,U,rfl⟩:=mem_map.1 aB
        exact a7 k9 U c (mem_filter.1 aC).1
      · rcases mem_append.1 aC with aC|aC
        · exact h c aC
        · rw [mem_singleton] at aC;subst aC
          obtain ⟨t,aM⟩:=ud aD;exact a7 _ aM c mem_cons_self
theorem Gc {q:Int→Prop} {o:List (List Int)} (ah:∀ l∈o,∀ c∈l,q c):∀ {l:List Int} {r:List (List Int)},iO o l=some r→∀ x∈r,∀ c∈x,q c
  | [],r,h,x,ab=>by cases h;cases ab
  | p::t,r,h,x,ab=>by
    rw [iO] at h;split at h
    · cases h
    · cases bq:iO o t with
      | none=>rw [bq] at h;cases h
      | some s=>
        rw [bq] at h;cases h;rcases mem_cons.1 ab with rfl|ab
        · intro c aC
          have aC:=(mem_filter.1 aC).1;rw [getD_eq_getElem?_getD] at aC;cases aB:o[p.toNat]? with
          | none=>rw [aB] at aC;cases aC
          | some l=>rw [aB] at aC;exact ah l (mem_of_getElem? aB) c aC
        · exact Gc ah bq x ab
structure Gd (n:Nat) (o:List (List Int)):Prop where
 len:∀ l∈o,l.length≤n+2
 Ge:∀ l∈o,∀ c∈l,0≤c∧c<(n:Int)
theorem Tc {g:List (List Int)} (aw:rD g) {o:List (List Int)} {c:Nat} (aC:c<3+g.length) (ah:Gd (3+g.length) o):(order g o c).length≤3+g.length+2∧∀ x∈order g o c,0≤x∧x<((3+g.length:Nat):Int):=by
 unfold order;cases aB:lists g o c with
 | none=>exact ⟨by simp,fun x ab=>by cases ab⟩
 | some all=>
  simp only;split
  ·have aD:=aw.parents c
   have fV:∀ l∈all,∀ c∈l,0≤c∧c<((3+g.length:Nat):Int):=by
    unfold lists at aB;cases bq:iO o (parents g c) with
    | none=>rw [bq] at aB;cases aB
    | some r=>
     rw [bq] at aB;cases aB;intro l aB x ab;rcases mem_append.1 aB with aB|aB
     ·exact Gc (q:=fun x=>0≤x∧x<((3+g.length:Nat):Int)) ah.Ge bq l aB x ab
     ·rw [mem_singleton] at aB;subst aB
      have:=aD.2 x ab;omega
   have U:∀ x∈(merged all).1,0≤x∧x<((3+g.length:Nat):Int):=KX _ all [] fV (fun c aC=>by cases aC);have ad:(merged all).1.Nodup:=KW _ all [] List.nodup_nil (fun c aC=>by cases aC);have al:=Gb _ _ ad U;refine ⟨by rw [length_append,length_cons,length_singleton];omega,fun x ab=>?_⟩;rcases mem_append.1 ab with ab|ab
   ·rcases mem_cons.1 ab with rfl|ab
    ·omega
    ·exact U x ab
   ·rw [mem_singleton] at ab;omega
  ·exact ⟨by simp,fun x ab=>by cases ab⟩
theorem Ac {g:List (List Int)} (aw:rD g):∀ k,k<3+g.length→Gd (3+g.length) (fB g k)
  | 0,_=>⟨fun l aB=>by rw [fB,mem_singleton] at aB;subst aB;simp,fun l aB c aC=>by rw [fB,mem_singleton] at aB;subst aB;rw [mem_singleton] at aC;omega⟩
  | k+1,h=>by
    have a1:=Ac aw k ag;have U:=Tc aw h a1;rw [fB];refine ⟨fun l aB=>?_,fun l aB=>?_⟩
    · rcases mem_append.1 aB with aB|aB
      · exact a1.len l aB
      · rw [mem_singleton] at aB;subst aB;exact U.1
    · rcases mem_append.1 aB with aB|aB
      · exact a1.Ge l aB
      · rw [mem_singleton] at aB;subst aB;exact U.2
theorem aS.Ad {sz:Nat} {xs ys:List af} {own:bL} (h:cR xs ys):aS (.aA sz xs own) (.aA sz ys own):=fun w p v av=>by
 cases av with
 | hR _ _ ah=>cases h;exact .hR _ _ ah
 | im a _ _ ah=>cases h;exact .im a _ _ ah
 | aA g off n cap _ vs _ _ az aB aC aF ar hm aE cv ah=>exact .aA g off n cap _ vs _ _ az (by rw [aB];exact h.length) aC (h.rel aF) ar hm aE cv ah
theorem Gf {g:List (List Int)} (aw:rD g) {o:List (List Int)} {c:Nat} (ah:Gd (3+g.length) o) {all:List (List Int)} (h:lists g o c=some all):qC 4 21 all:=by
 have aD:=aw.parents c;have jF:=aw.len;unfold lists at h;cases bq:iO o (parents g c) with
 | none=>rw [bq] at h;cases h
 | some r=>
  rw [bq] at h;cases h;have aB:=KS bq;refine ⟨by rw [length_append,length_singleton];omega,fun l aB=>?_⟩;rcases mem_append.1 aB with aB|aB
  ·refine ⟨?_,fun x ab=>(Gc (q:=fun x=>0≤x) (fun l aB c aC=>(ah.Ge l aB c aC).1) bq l aB x ab)⟩
   have key:∀ {l:List Int} {r:List (List Int)},iO o l=some r→∀ x∈r,x.length≤21:=by
    intro l
    induction l with
    | nil=>intro r h x ab;cases h;cases ab
    | cons p t a1=>
     intro r h x ab;rw [iO] at h;split at h
     ·cases h
     ·cases bq:iO o t with
      | none=>rw [bq] at h;cases h
      | some s=>
       rw [bq] at h;cases h;rcases mem_cons.1 ab with rfl|ab
       ·refine le_trans (xQ _ _) ?_
        rw [getD_eq_getElem?_getD];cases aB:o[p.toNat]? with
        | none=>simp
        | some l=>
         have:=ah.len l (mem_of_getElem? aB);show l.length≤21;omega
       ·exact a1 bq x ab
   exact key bq l aB
  ·rw [mem_singleton] at aB;subst aB
   exact ⟨by omega,fun x ab=>by have:=aD.2 x ab;omega⟩
theorem Td (g:List (List Int)) (aw:rD g):aR Tryz.prog 219 [c9 g] (c9 (fB g (2+g.length))):=by
 have aq:=bA;have jF:=aw.len;obtain ⟨xs,c5⟩:∃ xs:Nat→List af,∀ j,xs j=(fB g j).map bf:=⟨_,fun _=>rfl⟩;have bt:xs 0=[.aA 1 [.int .i64 0] .bb]:=by rw [c5];rfl
 have fc:∀ j,(xs j).length=j+1:=fun j=>by rw [c5,length_map,sW]
 refine aR.bh ai Tryz.func219 C C fun s I=>?_
 unfold c9;refine gm ?_;refine ae.Ab I 23 1 1 fun I=>?_
 refine ae.b4 [0] C I (σ:=Nat×bL) (fun q=>[(4,.int .i64 ((q.1+1:Nat):Int)),(3,.aA 1 (xs q.1) q.2)]) (fun q=>[(q.2,.row 23 1 (xs q.1).length)]) (fun q=>q.1≤2+g.length) (fun q=>2+g.length-q.1) (0,.clip) (zero_le _) ⟨⟨_,rfl,aL⟩,⟨_,rfl,by rw [bt];exact aS.Ad (.one aS.bb)⟩,trivial⟩ (by rw [fc];exact aH.dq _) ?_;rintro ⟨j,own⟩ aK I;simp only at aK I ⊢;have w:IntKind.wrap .i64 (3+((g.map bf).length:Int))=3+(g.length:Int):=by rw [length_map,ek ag ag]
 refine b7 ?_;refine ae.cond C (fun au=>?_) (fun aV=>?_);rotate_left
 ·have aV:j=2+g.length:=by
   rw [w] at aV;have:=of_decide_eq_false aV;omega
  subst aV;rw [← c5];refine dN ?_;exact Fin.cx I C aS.bb
 have au:j<2+g.length:=by
  rw [w] at au;have:=of_decide_eq_true au;omega
 have mu:=Ac aw j ag;have lk:=Tb g aw (fB g j) (j+1) ag (by rw [sW];exact Nat.le_refl _) (by rw [sW];omega) (fun l aB=>by have:=mu.len l aB;omega);have ar:=c5 (j+1);rw [fB,map_append,← c5] at ar;have ar:xs (j+1)=xs j++[bf (order g (fB g j) (j+1))]:=ar;have df:(xs (j+1)).length=(xs j).length+1:=by rw [ar];simp
 have lC:=fc j;unfold order at ar;have Te:cR [.aA 1 (g.map bf) .bb,.aA 1 (xs j) own,.int .i64 ((j+1:Nat):Int)] [c9 g,c9 (fB g j),.int .i64 ((j+1:Nat):Int)] := .cons aL (.cons (by unfold c9;rw [← c5];exact aS.bb) (.one aL));have lk:=aR.args Te lk;cases aB:lists g (fB g j) (j+1) with
 | none=>
  rw [aB] at lk ar;unfold ug c9 at lk;simp only at ar;refine bC ?_;refine aa.eg C C C C C lk ?_;refine bC ?_;refine aa.gb ai I C C C C C C C en C C C C C C C C aY hi px ag (fun bT I=>?_);refine fG ?_;exact bn.mk (j+1,.own bT) I au ⟨⟨_,rfl,aS.of_eq (by rw [jD ag])⟩,⟨_,rfl,by rw [ar];exact aS.Ad (cR.last (show aS (.aA 0 [] .nil) (bf []) from aS.nil gW) _)⟩,⟨_,rfl,aL⟩,trivial⟩ FF FI
 | some all=>
  rw [aB] at lk ar;have hm:=S9 4 21 ag all (Gf aw mu aB);unfold ug c9 at lk;unfold c9 bf at hm;simp only at ar;refine bC ?_;refine aa.eg C C C C C lk ?_;refine bC ?_;refine aa.eg C C C C C hm ?_;have hs:=F9 (total all+1) all [];have wa:=C6 (Gf aw mu aB);cases wc:(merged all).2 with
  | false=>
   rw [wc] at ar;simp only [Bool.false_eq_true,if_false] at ar;refine bC ?_;refine aa.gb ai I C C C C C C C en C C C C C C C C aY hi px ag (fun bT I=>?_);refine fG ?_;exact bn.mk (j+1,.own bT) I au ⟨⟨_,rfl,aS.of_eq (by rw [jD ag])⟩,⟨_,rfl,by rw [ar];exact aS.Ad (cR.last (show aS (.aA 0 [] .nil) (bf []) from aS.nil gW) _)⟩,⟨_,rfl,aL⟩,trivial⟩ FF FI
  | true=>
   rw [wc] at ar;simp only [if_true] at ar;have Gg:(merged all).1.length≤84:=by
    have:(merged all).1.length≤0+total all:=hs;omega
   generalize (merged all).1=m at hm ar Gg;have he:bf (((j+1:Nat):Int)::m++[0]) = .aA 1 ([.int .i64 ((j+1:Nat):Int)]++m.map ba++[.int .i64 0]) .bb:=by unfold bf;simp [ba]
   rw [he] at ar;refine bC ?_;refine aa.Ab I 3 1 1 fun I=>?_
   refine aa.qs ai I rfl rfl rfl rfl rfl rfl rfl en rfl rfl rfl rfl (.inr rfl) rfl (fun y ay=>by obtain ⟨z,-,rfl⟩:=mem_map.1 ay;rfl) C .here C (n':=m.length+1) cG cG cG (fun s4 I=>?_);refine dy ?_;refine aa.gb ai I C C C C C C C en C C C C C C C C aY hi j9 ag (fun ff I=>?_);refine hq ?_;refine aa.gb ai I C C C C C C C en C C C C C C C C aY hi px ag (fun bT I=>?_);refine fG ?_;exact bn.mk (j+1,.own bT) I au ⟨⟨_,rfl,aS.of_eq (by rw [jD ag])⟩,⟨_,rfl,by rw [ar];exact aS.Ad (cR.last aS.bb _)⟩,⟨_,rfl,aL⟩,trivial⟩ FF FI
theorem Tf (g:List (List Int)) (aw:rD g) (c:Nat) (aC:c<3+g.length):aR Tryz.prog 181 [c9 g,.int .i64 (c:Int)] (.cp [bf ((fB g (2+g.length)).getD c []),.bool (!((fB g (2+g.length)).getD c []).isEmpty)]):=by
 have ah:=Td g aw;have aB:=sW g (2+g.length);have cv:c<(fB g (2+g.length)).length:=by omega
 obtain ⟨l,ay,da⟩:=b1 (f:=bf) cv;rw [getD_eq_getElem?_getD,ay,getD_some];unfold c9 at ah ⊢;unfold bf at da;refine aR.bh ai Tryz.func181 C C fun s I=>?_
 refine dv ?_;refine aa.eg C C C C C ah ?_;refine bC ?_;refine Fin.cx I C (aS.cp (.cons aL (.one (aS.of_eq ?_))));congr 1;cases l<;>simp
end Go.Proofs.YtnafpeohfbglmaaGreat
namespace Go.cU
theorem aH.all:∀ L:a8,aH L L []
 | [] => .nil
 | (_,_)::L => .cons .here (aH.all L)
end Go.cU
namespace Go.eb.ak
open Go.cU
mutual
def bK:ak→af
 | .mk o a p c n ks => .agg [.int .i64 o,.int .i64 a,.aA 1 (p.map fun i => .int .i64 i) .bb,.int .i64 c,.int .i64 n,.aA 6 (C8 ks) .bb]
def C8:List ak→List af
 | []=>[]
 | k::r=>k.bK::C8 r
end
theorem KY:∀ l:List ak,C8 l=l.map bK
 | []=>rfl
 | k::r=>by rw [C8,map_cons,KY r]
def cells (x:ak):List af:=[.int .i64 x.op,.int .i64 x.arg,.aA 1 (x.path.map fun i => .int .i64 i) .bb,.int .i64 x.cls,.int .i64 x.n,.aA 6 (x.kids.map bK) .bb]
theorem bX (x:ak):x.bK = .agg x.cells:=by cases x;rw [bK,KY];rfl
end Go.eb.ak
namespace Go.Proofs.YtnafpeohfbglmaaGreat
open Go.cU Go.eb
def fr (w:bx):List af:=[c9 w.ps,bf w.owner]
def fm (w:bx):af := .agg (fr w)
def we (x:iP):af := .agg [.int .i64 x.slot,.int .i64 x.n]
def mN (c:fJ):List af:=[bf c.parents,bf c.bo,.aA 2 (c.inits.map we) .bb]
def jc (c:fJ):af := .agg (mN c)
def nn (m:hW):List af:=[.int .i64 m.kind,.int .i64 m.gen,.int .i64 m.fact.op,.int .i64 m.fact.arg,.aA 1 (m.fact.path.map fun i => .int .i64 i) .bb,.int .i64 m.fact.cls,.int .i64 m.fact.n,.aA 6 (m.fact.kids.map ak.bK) .bb,.int .i64 m.node]
def ll (m:hW):af := .agg (nn m)
def kP (x:iQ):List af:=[.int .i64 x.op,.int .i64 x.n,bf x.kids]
def jd (x:iQ):af := .agg (kP x)
def cL (p:bP):List af:=[.aA 3 (p.ck.map jc) .bb,.int .i64 p.bo,bf p.d',.aA 9 (p.methods.map ll) .bb,.aA 3 (p.nodes.map jd) .bb,.int .i64 p.main]
def cA (p:bP):af := .agg (cL p)
def gZ (x:b0):List af:=[.int .i64 x.atom,.int .i64 x.no,.int .i64 x.yes,bf x.ms]
def eW (x:b0):af := .agg (gZ x)
theorem eA.KZ {P:Program} {fv:af} {args:List af} {v:af} (h:eA P fv args v):dp P fv args [] (fun o K=>o = .ret v∧K=[]):=fun s _=>hL.mono (h s) (fun o aj ⟨U,ad⟩=>⟨[],ad,trivial,U,rfl⟩)
theorem bE.Gh {P:Program} {f:FuncId} {args:List af} {v:af} (h:bE P f args [] (fun o K=>o = .ret v∧K=[])):aR P f args v:=fun s=>hd.mono (h s trivial) (fun o aj ⟨K,U,_,ad,al⟩=>⟨ad,by subst al;exact U⟩)
theorem K0 {α:Type} (q:α→Bool):∀ (xs:List α) (j:Nat) (x:α),xs[j]? = some x→q x=true→(∀ (i:Nat) y,i<j→xs[i]? = some y→q y=false)→xs.findIdx? q=some j:=by
 intro xs j x ab bq aQ;obtain ⟨U,ad⟩:=List.getElem?_eq_some_iff.1 ab;rw [List.findIdx?_eq_some_iff_getElem];exact ⟨U,by rw [ad];exact bq,fun i eK=>by rw [aQ i xs[i] eK (getElem?_eq_getElem _)];simp⟩
theorem K1 {α:Type} (q:α→Bool) (xs:List α) (aQ:∀ (i:Nat) y,xs[i]? = some y→q y=false):xs.findIdx? q=none:=by
 rw [List.findIdx?_eq_none_iff];intro x ab;obtain ⟨i,h⟩:=getElem?_of_mem ab;exact aQ i x h
theorem Tg {α:Type} {f:FuncId} {fv bB:af} {bK:α→af} {xs:List α} {q:α→Bool}
  (ar:∀ (T:Nat→a8) (cm:Nat→Bool),(∀ j x,xs[j]? = some x→(∀ i,i<j→cm i=false)→dp Tryz.prog fv [bK x] (T j) (fun o K=>o = .ret (.bool (cm j))∧K=T (j+1)))→bE Tryz.prog f [bB,fv] (T 0)
   (fun o K=>(o = .ret (.int .i64 (-1))∧K=T xs.length∧∀ i,i<xs.length→cm i=false)∨∃ j,j<xs.length∧cm j=true∧(∀ i,i<j→cm i=false)∧o = .ret (.int .i64 (j:Int))∧K=T (j+1)))
  (h:∀ x∈xs,eA Tryz.prog fv [bK x] (.bool (q x))):aR Tryz.prog f [bB,fv] (.int .i64 (match xs.findIdx? q with|some i=>(i:Int)|none => -1)):=by
 have:=ar (fun _=>[]) (fun j=>match xs[j]? with|some x=>q x|none=>false) (fun j x ab _=>by rw [ab];exact eA.KZ (h x (mem_of_getElem? ab)));refine bE.Gh (bE.mono this ?_);rintro o K (⟨rfl,rfl,U⟩|⟨j,U,ad,al,rfl,rfl⟩)
 ·rw [K1 q xs (fun i y ay=>by have:=U i (qB ay);rw [ay] at this;exact this)]
  exact ⟨rfl,rfl⟩
 ·have ab:=getElem?_eq_getElem U
  rw [ab] at ad;rw [K0 q xs j _ ab ad (fun i y eK ay=>by have:=al i eK;rw [ay] at this;exact this)];exact ⟨rfl,rfl⟩
theorem Ae {α:Type} {f:FuncId} {fv bB:af} {bK:α→af} {xs:List α} {q:α→Bool}
  (ar:∀ (T:Nat→a8) (cm:Nat→Bool),(∀ j x,xs[j]? = some x→(∀ i,i<j→cm i=false)→dp Tryz.prog fv [bK x] (T j) (fun o K=>o = .ret (.bool (cm j))∧K=T (j+1)))→bE Tryz.prog f [bB,fv] (T 0)
   (fun o K=>(o = .ret (.bool false)∧K=T xs.length∧∀ i,i<xs.length→cm i=false)∨∃ j,j<xs.length∧cm j=true∧(∀ i,i<j→cm i=false)∧o = .ret (.bool true)∧K=T (j+1)))
  (h:∀ x∈xs,eA Tryz.prog fv [bK x] (.bool (q x))):aR Tryz.prog f [bB,fv] (.bool (xs.any q)):=by
 have:=ar (fun _=>[]) (fun j=>match xs[j]? with|some x=>q x|none=>false) (fun j x ab _=>by rw [ab];exact eA.KZ (h x (mem_of_getElem? ab)));refine bE.Gh (bE.mono this ?_);rintro o K (⟨rfl,rfl,U⟩|⟨j,U,ad,al,rfl,rfl⟩)
 ·have:xs.any q=false:=by
   rw [List.any_eq_false];intro x ab;obtain ⟨i,aQ⟩:=getElem?_of_mem ab;have:=U i (qB aQ);rw [aQ] at this;simpa using this
  rw [this];exact ⟨rfl,rfl⟩
 ·have ab:=getElem?_eq_getElem U
  rw [ab] at ad;have:xs.any q=true:=any_eq_true.2 ⟨_,List.getElem_mem U,ad⟩;rw [this];exact ⟨rfl,rfl⟩
def fZ (v:Int×Int):af := .agg [.int .i64 v.1,.int .i64 v.2]
def iS (x:e2):af := .agg [.int .i64 x.cls,.aA 2 (x.bo.map fZ) .bb]
theorem K2 (fv:af) (xs:List ak) (T:Nat→a8) (cm:Nat→Bool) (aB:xs.length<bz) (h:∀ j x,xs[j]? = some x→(∀ i,i<j→cm i=false)→dp Tryz.prog fv [ak.bK x] (T j) (fun o K=>o = .ret (.bool (cm j))∧K=T (j+1))) :
  bE Tryz.prog 150 [.aA 6 (xs.map ak.bK) .bb,fv] (T 0)
   (fun o K=>(o = .ret (.int .i64 (-1))∧K=T xs.length∧∀ i,i<xs.length→cm i=false)∨∃ j,j<xs.length∧cm j=true∧(∀ i,i<j→cm i=false)∧o = .ret (.int .i64 (j:Int))∧K=T (j+1)):=by
 have aq:=bA;refine bE.bh ai Tryz.func150 C C fun s I=>?_
 refine gm ?_;refine ae.xL I (σ:=Nat) (fun j=>[(0,.aA 6 (xs.map ak.bK) .bb),(1,fv),(7,.int .i64 xs.length),(8,.int .i64 (j:Int))]) T (fun j=>j≤xs.length∧∀ i,i<j→cm i=false) (fun j=>xs.length-j) 0 ⟨by omega,fun i aQ=>by omega⟩ zK (aH.all _) ?_;rintro j ⟨aK,an⟩ I;refine b7 ?_;refine ae.cond C (fun au=>?_) (fun aV=>?_)
 ·have au:j<xs.length:=by simpa using au
  obtain ⟨x,ab,bJ⟩:=b1 (f:=ak.bK) au;have av:=h j x ab an
  try rw [ak.bX] at bJ av
  refine bC ?_;refine aa.gH rfl rfl rfl rfl rfl rfl av I (aH.all _) ?_ (fun _ _ ⟨h,_⟩ _=>by cases h);rintro _ _ ⟨⟨⟩,rfl⟩ I;rw [append_nil] at I ⊢;cases nX:cm j with
  | true=>
   refine e1 ?_;exact Fin.bu I C aL (aH.all _) (.inr ⟨j,au,nX,an,rfl,rfl⟩)
  | false=>
   refine bC ?_
   exact bn.mk (j+1) I ⟨au,fun i aQ=>by
    rcases lt_succ_iff_lt_or_eq.1 aQ with aQ|rfl
    ·exact an i aQ
    ·exact nX⟩ ca (aH.all _) ru
 ·have aV:j=xs.length:=by
   have:xs.length≤j:=by simpa using aV
   omega
  subst aV;refine dN ?_;exact Fin.bu I C aL (aH.all _) (.inl ⟨rfl,rfl,an⟩)
theorem Gi (fv:af) (xs:List ak) (T:Nat→a8) (cm:Nat→Bool) (aB:xs.length<bz) (h:∀ j x,xs[j]? = some x→(∀ i,i<j→cm i=false)→dp Tryz.prog fv [ak.bK x] (T j) (fun o K=>o = .ret (.bool (cm j))∧K=T (j+1))) :
  bE Tryz.prog 102 [.aA 6 (xs.map ak.bK) .bb,fv] (T 0)
   (fun o K=>(o = .ret (.bool false)∧K=T xs.length∧∀ i,i<xs.length→cm i=false)∨∃ j,j<xs.length∧cm j=true∧(∀ i,i<j→cm i=false)∧o = .ret (.bool true)∧K=T (j+1)):=by
 refine bE.bh ai Tryz.func102 C C fun s I=>?_
 refine dv ?_;refine aa.b3 rfl rfl rfl rfl rfl (K2 fv xs T cm aB h) I (aH.all _) ?_ (fun _ _ h _=>by rcases h with ⟨h,_⟩|⟨_,_,_,_,h,_⟩<;>cases h);rintro _ _ (⟨⟨⟩,rfl,U⟩|⟨j,U,ad,al,⟨⟩,rfl⟩) I
 all_goals rw [append_nil] at I ⊢
 ·refine eu ?_
  exact Fin.bu I C aL (aH.all _) (.inl ⟨rfl,rfl,U⟩)
 ·refine eu ?_
  exact Fin.bu I C (by simp;exact aL) (aH.all _) (.inr ⟨j,U,ad,al,rfl,rfl⟩)
theorem Th (fv:af) (q:ak→Bool) (xs:List ak) (aB:xs.length<bz) (h:∀ x∈xs,eA Tryz.prog fv [ak.bK x] (.bool (q x))) :
  aR Tryz.prog 102 [.aA 6 (xs.map ak.bK) .bb,fv] (.bool (xs.any q)):=
 Ae (fun T cm ez=>Gi fv xs T cm aB ez) h
theorem Ti (fv:af) (q:ak→Bool) (xs:List ak) (aB:xs.length<bz) (h:∀ x∈xs,eA Tryz.prog fv [ak.bK x] (.bool (q x))) :
  aR Tryz.prog 150 [.aA 6 (xs.map ak.bK) .bb,fv] (.int .i64 (match xs.findIdx? q with|some i=>(i:Int)|none => -1)):=
 Tg (fun T cm ez=>K2 fv xs T cm aB ez) h
theorem Tj (fv:af) (xs:List Int) (T:Nat→a8) (cm:Nat→Bool) (aB:xs.length<bz) (h:∀ j x,xs[j]? = some x→(∀ i,i<j→cm i=false)→dp Tryz.prog fv [ba x] (T j) (fun o K=>o = .ret (.bool (cm j))∧K=T (j+1))) :
  bE Tryz.prog 90 [.aA 1 (xs.map ba) .bb,fv] (T 0)
   (fun o K=>(o = .ret (.int .i64 (-1))∧K=T xs.length∧∀ i,i<xs.length→cm i=false)∨∃ j,j<xs.length∧cm j=true∧(∀ i,i<j→cm i=false)∧o = .ret (.int .i64 (j:Int))∧K=T (j+1)):=by
 have aq:=bA;refine bE.bh ai Tryz.func90 C C fun s I=>?_
 refine gm ?_;refine ae.xL I (σ:=Nat) (fun j=>[(0,.aA 1 (xs.map ba) .bb),(1,fv),(7,.int .i64 xs.length),(8,.int .i64 (j:Int))]) T (fun j=>j≤xs.length∧∀ i,i<j→cm i=false) (fun j=>xs.length-j) 0 ⟨by omega,fun i aQ=>by omega⟩ zK (aH.all _) ?_;rintro j ⟨aK,an⟩ I;refine b7 ?_;refine ae.cond C (fun au=>?_) (fun aV=>?_)
 ·have au:j<xs.length:=by simpa using au
  obtain ⟨x,ab,bJ⟩:=b1 (f:=ba) au;have av:=h j x ab an
  try rw [ba] at bJ av
  refine bC ?_;refine aa.gH rfl rfl rfl rfl rfl rfl av I (aH.all _) ?_ (fun _ _ ⟨h,_⟩ _=>by cases h);rintro _ _ ⟨⟨⟩,rfl⟩ I;rw [append_nil] at I ⊢;cases nX:cm j with
  | true=>
   refine e1 ?_;exact Fin.bu I C aL (aH.all _) (.inr ⟨j,au,nX,an,rfl,rfl⟩)
  | false=>
   refine bC ?_
   exact bn.mk (j+1) I ⟨au,fun i aQ=>by
    rcases lt_succ_iff_lt_or_eq.1 aQ with aQ|rfl
    ·exact an i aQ
    ·exact nX⟩ ca (aH.all _) ru
 ·have aV:j=xs.length:=by
   have:xs.length≤j:=by simpa using aV
   omega
  subst aV;refine dN ?_;exact Fin.bu I C aL (aH.all _) (.inl ⟨rfl,rfl,an⟩)
theorem K3 (fv:af) (xs:List Int) (T:Nat→a8) (cm:Nat→Bool) (aB:xs.length<bz) (h:∀ j x,xs[j]? = some x→(∀ i,i<j→cm i=false)→dp Tryz.prog fv [ba x] (T j) (fun o K=>o = .ret (.bool (cm j))∧K=T (j+1))) :
  bE Tryz.prog 40 [.aA 1 (xs.map ba) .bb,fv] (T 0)
   (fun o K=>(o = .ret (.bool false)∧K=T xs.length∧∀ i,i<xs.length→cm i=false)∨∃ j,j<xs.length∧cm j=true∧(∀ i,i<j→cm i=false)∧o = .ret (.bool true)∧K=T (j+1)):=by
 refine bE.bh ai Tryz.func40 C C fun s I=>?_
 refine dv ?_;refine aa.b3 rfl rfl rfl rfl rfl (Tj fv xs T cm aB h) I (aH.all _) ?_ (fun _ _ h _=>by rcases h with ⟨h,_⟩|⟨_,_,_,_,h,_⟩<;>cases h);rintro _ _ (⟨⟨⟩,rfl,U⟩|⟨j,U,ad,al,⟨⟩,rfl⟩) I
 all_goals rw [append_nil] at I ⊢
 ·refine eu ?_
  exact Fin.bu I C aL (aH.all _) (.inl ⟨rfl,rfl,U⟩)
 ·refine eu ?_
  exact Fin.bu I C (by simp;exact aL) (aH.all _) (.inr ⟨j,U,ad,al,rfl,rfl⟩)
theorem Tk (fv:af) (q:Int→Bool) (xs:List Int) (aB:xs.length<bz) (h:∀ x∈xs,eA Tryz.prog fv [ba x] (.bool (q x))) :
  aR Tryz.prog 40 [.aA 1 (xs.map ba) .bb,fv] (.bool (xs.any q)):=
 Ae (fun T cm ez=>K3 fv xs T cm aB ez) h
theorem Tl (fv:af) (xs:List (Int×Int)) (T:Nat→a8) (cm:Nat→Bool) (aB:xs.length<bz) (h:∀ j x,xs[j]? = some x→(∀ i,i<j→cm i=false)→dp Tryz.prog fv [fZ x] (T j) (fun o K=>o = .ret (.bool (cm j))∧K=T (j+1))) :
  bE Tryz.prog 241 [.aA 2 (xs.map fZ) .bb,fv] (T 0)
   (fun o K=>(o = .ret (.int .i64 (-1))∧K=T xs.length∧∀ i,i<xs.length→cm i=false)∨∃ j,j<xs.length∧cm j=true∧(∀ i,i<j→cm i=false)∧o = .ret (.int .i64 (j:Int))∧K=T (j+1)):=by
 have aq:=bA;refine bE.bh ai Tryz.func241 C C fun s I=>?_
 refine gm ?_;refine ae.xL I (σ:=Nat) (fun j=>[(0,.aA 2 (xs.map fZ) .bb),(1,fv),(7,.int .i64 xs.length),(8,.int .i64 (j:Int))]) T (fun j=>j≤xs.length∧∀ i,i<j→cm i=false) (fun j=>xs.length-j) 0 ⟨by omega,fun i aQ=>by omega⟩ zK (aH.all _) ?_;rintro j ⟨aK,an⟩ I;refine b7 ?_;refine ae.cond C (fun au=>?_) (fun aV=>?_)
 ·have au:j<xs.length:=by simpa using au
  obtain ⟨x,ab,bJ⟩:=b1 (f:=fZ) au;have av:=h j x ab an
  try rw [fZ] at bJ av
  refine bC ?_;refine aa.gH rfl rfl rfl rfl rfl rfl av I (aH.all _) ?_ (fun _ _ ⟨h,_⟩ _=>by cases h);rintro _ _ ⟨⟨⟩,rfl⟩ I;rw [append_nil] at I ⊢;cases nX:cm j with
  | true=>
   refine e1 ?_;exact Fin.bu I C aL (aH.all _) (.inr ⟨j,au,nX,an,rfl,rfl⟩)
  | false=>
   refine bC ?_
   exact bn.mk (j+1) I ⟨au,fun i aQ=>by
    rcases lt_succ_iff_lt_or_eq.1 aQ with aQ|rfl
    ·exact an i aQ
    ·exact nX⟩ ca (aH.all _) ru
 ·have aV:j=xs.length:=by
   have:xs.length≤j:=by simpa using aV
   omega
  subst aV;refine dN ?_;exact Fin.bu I C aL (aH.all _) (.inl ⟨rfl,rfl,an⟩)
theorem Tm (fv:af) (xs:List (Int×Int)) (T:Nat→a8) (cm:Nat→Bool) (aB:xs.length<bz) (h:∀ j x,xs[j]? = some x→(∀ i,i<j→cm i=false)→dp Tryz.prog fv [fZ x] (T j) (fun o K=>o = .ret (.bool (cm j))∧K=T (j+1))) :
  bE Tryz.prog 207 [.aA 2 (xs.map fZ) .bb,fv] (T 0)
   (fun o K=>(o = .ret (.bool false)∧K=T xs.length∧∀ i,i<xs.length→cm i=false)∨∃ j,j<xs.length∧cm j=true∧(∀ i,i<j→cm i=false)∧o = .ret (.bool true)∧K=T (j+1)):=by
 refine bE.bh ai Tryz.func207 C C fun s I=>?_
 refine dv ?_;refine aa.b3 rfl rfl rfl rfl rfl (Tl fv xs T cm aB h) I (aH.all _) ?_ (fun _ _ h _=>by rcases h with ⟨h,_⟩|⟨_,_,_,_,h,_⟩<;>cases h);rintro _ _ (⟨⟨⟩,rfl,U⟩|⟨j,U,ad,al,⟨⟩,rfl⟩) I
 all_goals rw [append_nil] at I ⊢
 ·refine eu ?_
  exact Fin.bu I C aL (aH.all _) (.inl ⟨rfl,rfl,U⟩)
 ·refine eu ?_
  exact Fin.bu I C (by simp;exact aL) (aH.all _) (.inr ⟨j,U,ad,al,rfl,rfl⟩)
theorem Tn (fv:af) (q:(Int×Int)→Bool) (xs:List (Int×Int)) (aB:xs.length<bz) (h:∀ x∈xs,eA Tryz.prog fv [fZ x] (.bool (q x))) :
  aR Tryz.prog 207 [.aA 2 (xs.map fZ) .bb,fv] (.bool (xs.any q)):=
 Ae (fun T cm ez=>Tm fv xs T cm aB ez) h
theorem To (fv:af) (xs:List e2) (T:Nat→a8) (cm:Nat→Bool) (aB:xs.length<bz) (h:∀ j x,xs[j]? = some x→(∀ i,i<j→cm i=false)→dp Tryz.prog fv [iS x] (T j) (fun o K=>o = .ret (.bool (cm j))∧K=T (j+1))) :
  bE Tryz.prog 264 [.aA 2 (xs.map iS) .bb,fv] (T 0)
   (fun o K=>(o = .ret (.int .i64 (-1))∧K=T xs.length∧∀ i,i<xs.length→cm i=false)∨∃ j,j<xs.length∧cm j=true∧(∀ i,i<j→cm i=false)∧o = .ret (.int .i64 (j:Int))∧K=T (j+1)):=by
 have aq:=bA;refine bE.bh ai Tryz.func264 C C fun s I=>?_
 refine gm ?_;refine ae.xL I (σ:=Nat) (fun j=>[(0,.aA 2 (xs.map iS) .bb),(1,fv),(7,.int .i64 xs.length),(8,.int .i64 (j:Int))]) T (fun j=>j≤xs.length∧∀ i,i<j→cm i=false) (fun j=>xs.length-j) 0 ⟨by omega,fun i aQ=>by omega⟩ zK (aH.all _) ?_;rintro j ⟨aK,an⟩ I;refine b7 ?_;refine ae.cond C (fun au=>?_) (fun aV=>?_)
 ·have au:j<xs.length:=by simpa using au
  obtain ⟨x,ab,bJ⟩:=b1 (f:=iS) au;have av:=h j x ab an
  try rw [iS] at bJ av
  refine bC ?_;refine aa.gH rfl rfl rfl rfl rfl rfl av I (aH.all _) ?_ (fun _ _ ⟨h,_⟩ _=>by cases h);rintro _ _ ⟨⟨⟩,rfl⟩ I;rw [append_nil] at I ⊢;cases nX:cm j with
  | true=>
   refine e1 ?_;exact Fin.bu I C aL (aH.all _) (.inr ⟨j,au,nX,an,rfl,rfl⟩)
  | false=>
   refine bC ?_
   exact bn.mk (j+1) I ⟨au,fun i aQ=>by
    rcases lt_succ_iff_lt_or_eq.1 aQ with aQ|rfl
    ·exact an i aQ
    ·exact nX⟩ ca (aH.all _) ru
 ·have aV:j=xs.length:=by
   have:xs.length≤j:=by simpa using aV
   omega
  subst aV;refine dN ?_;exact Fin.bu I C aL (aH.all _) (.inl ⟨rfl,rfl,an⟩)
theorem Tp (fv:af) (xs:List e2) (T:Nat→a8) (cm:Nat→Bool) (aB:xs.length<bz) (h:∀ j x,xs[j]? = some x→(∀ i,i<j→cm i=false)→dp Tryz.prog fv [iS x] (T j) (fun o K=>o = .ret (.bool (cm j))∧K=T (j+1))) :
  bE Tryz.prog 239 [.aA 2 (xs.map iS) .bb,fv] (T 0)
   (fun o K=>(o = .ret (.bool false)∧K=T xs.length∧∀ i,i<xs.length→cm i=false)∨∃ j,j<xs.length∧cm j=true∧(∀ i,i<j→cm i=false)∧o = .ret (.bool true)∧K=T (j+1)):=by
 refine bE.bh ai Tryz.func239 C C fun s I=>?_
 refine dv ?_;refine aa.b3 rfl rfl rfl rfl rfl (To fv xs T cm aB h) I (aH.all _) ?_ (fun _ _ h _=>by rcases h with ⟨h,_⟩|⟨_,_,_,_,h,_⟩<;>cases h);rintro _ _ (⟨⟨⟩,rfl,U⟩|⟨j,U,ad,al,⟨⟩,rfl⟩) I
 all_goals rw [append_nil] at I ⊢
 ·refine eu ?_
  exact Fin.bu I C aL (aH.all _) (.inl ⟨rfl,rfl,U⟩)
 ·refine eu ?_
  exact Fin.bu I C (by simp;exact aL) (aH.all _) (.inr ⟨j,U,ad,al,rfl,rfl⟩)
theorem Tq (fv:af) (q:e2→Bool) (xs:List e2) (aB:xs.length<bz) (h:∀ x∈xs,eA Tryz.prog fv [iS x] (.bool (q x))) :
  aR Tryz.prog 239 [.aA 2 (xs.map iS) .bb,fv] (.bool (xs.any q)):=
 Ae (fun T cm ez=>Tp fv xs T cm aB ez) h
end Go.Proofs.YtnafpeohfbglmaaGreat
namespace Go.cU
theorem K4 {s s1:ao} {w dG:World} {p kQ:bR} {T:TypeId} {v:Value} {b:Nat} (hle:dc w p dG kQ) (aE:Kept s s1 w p dG kQ) (cc:dm dG kQ s1) (Af:dG.heap[b]? = some (.cells #[v] T (0,0)))
  (aq:w.heap.size≤b) (aD:∀ o,¬ kQ b o) (ar:s1 b=none) (x:Value) :
  dc w p (dG.setRow b #[x]) kQ∧Kept s s1 w p (dG.setRow b #[x]) kQ∧dm (dG.setRow b #[x]) kQ s1∧dc dG kQ (dG.setRow b #[x]) kQ∧(dG.setRow b #[x]).heap[b]? = some (.cells #[x] T (0,0)):=by
 have kM:dm dG kQ (s1.set b (.box T [.any])):=by
  refine ⟨fun aW o dI=>?_,cc.lt⟩;by_cases e:aW=b
  ·subst e;rw [ao.gk] at dI;cases dI
   exact ⟨_,Af,.cons _ _ _ _ (.any v) .nil,aD⟩
  ·rw [ao.fx _ _ e] at dI;exact cc.obj aW o dI
 obtain ⟨cD,dh,fa⟩:=vj kM (ao.gk _ _ _) (vs' := #[x]) (cs':=[.any]) (fun vs av=>by rw [Af] at av;cases av;rfl) (.cons _ _ _ _ (.any x) .nil) _ C;have Tr:∀ aW,aW≠b→(dG.setRow b #[x]).heap[aW]? = dG.heap[aW]?:=by
  intro aW dI;simp only [World.setRow];rw [getElem?_modify,if_neg (Ne.symm dI)]
 refine ⟨hle.trans cD,⟨fun aW dI az=>(Tr aW ag).trans (aE.heap aW dI az),aE.kH,aE.k2⟩,fa.sub (fun aW=>?_),cD,?_⟩
 ·by_cases e:aW=b
  ·subst e;exact .inr ar
  ·left;rw [ao.fx _ _ e,ao.fx _ _ e]
 ·simp only [World.setRow]
  rw [getElem?_modify,if_pos C,Af];rfl
theorem K5 {w:World} {b:Nat} {v x:Value} {T:TypeId} (h:w.heap[b]? = some (.cells #[v] T (0,0))):w.setCell ⟨b,0,none⟩ x=w.setRow b #[x]:=by
 simp only [World.setCell,World.setRow];congr 1;refine Array.ext_getElem? fun i=>?_
 rw [getElem?_modify,getElem?_modify];by_cases e:b=i
 ·subst e;rw [if_pos C,if_pos C,h];rfl
 ·rw [if_neg e,if_neg e]
theorem Gj:∀ {rest:List PanicEntry},(∀ e∈rest,e.goexit=false)→rest.dropWhile (fun e => !e.goexit)=[]
 | [],_=>rfl
 | e::r,h=>by rw [List.dropWhile_cons,h e mem_cons_self];simp only [Bool.not_false,if_true];exact Gj fun e' he=>h e' (mem_cons_of_mem _ he)
theorem ae.use {P:Program} {N:Nat} {c:Code} {Q:b8→Env→ao→Prop} {env:Env} {s:ao} (h:ae P N c Q env s) {b:Frame} {B:fL} {a:Act} {w:World} {p:bR} (a6:(P.funcs[b.fn]?).isSome=true) (aI:dw N B b.roundOf env s a w p) :
  jK P b c (kg N B b.roundOf s w p Q) a w:=h b B a w p a6 aI
theorem dp.frame {P:Program} {fv:af} {args:List af} {K L R:a8} {acs D:ey→a8→Prop} (h:dp P fv args K acs) (ar:aH L K R) (e0:∀ o aO,acs o aO→D o (aO++R)):dp P fv args L D:=
 fun s I=>(h.at I ar).mono fun o aj ⟨Ts,e,xZ,aO,Gk,Gl⟩=>by
  subst Gk;exact ⟨_,e,xZ,e0 o aO Gl⟩
theorem aZ.Gm {P:Program} {Γ:cw} {N:Nat} {env:Env} {s:ao} {o:Oper} (aP:bQ P Γ) {t yt e:TypeId} {x:Operand} {it:bM} {sz:Nat} {xs:List af} {own:bL} (ah:o.op = .binOp .eql t x (.const (.slice none 0 0)) yt)
  (aM:Γ.get? t=some it) (br:it.bF = .aA e) (ab:aJ env x=some (.aA sz xs own)) {X:af→ao→Prop} :
  aZ P N o env s (fun r aj=>aj=s∧((r = .bool true∧xs=[])∨r = .bool false)) X:=by
 refine aZ.ki (by simp [cU.gE,ah]) fun ro B a w p aI=>?_
 obtain ⟨info,d,U,ad,al,bd,bD,gj⟩:=aP.parts aM;have hu:=aI.aJ ab;have ax:∃ e,d = .slice e:=by
  rw [br] at al;cases d<;>simp [ev] at al<;>exact ⟨_,rfl⟩
 obtain ⟨e',rfl⟩:=ax;have cO:∀ q,(binOp .eql t (a.eval x) (.slice none 0 0)).run P w = .ok (.bool q) w→(∀ c,a.eval x ≠ .agg c)→(execOp a.eval o).run P w = .ok (.value (.bool q)) w:=by
  intro q bq aC;unfold execOp;rw [ah];refine gR ?_;show (do eqGuard .eql t x (.const (.slice none 0 0)) (a.eval x) (.slice none 0 0);binOp .eql t (a.eval x) (.slice none 0 0):Sem Value).run P w=_;rw [Sem.run_bind,sn w ⟨fun _=>⟨_,rfl⟩,aC⟩,Result.andThen_ok,bq]
 generalize a.eval x=dP at hu cO;cases hu with
 | hR _ _ _=>exact ⟨_,_,s,p,.bool true,cO true (vd C C (fun d=>by simp [Op.equalIn,run_underlying ad])).1 a',.refl w p,.refl s w p,aI.wf,⟨rfl,.inl ⟨rfl,rfl⟩⟩,.bool _⟩
 | im a _ _ _=>exact ⟨_,_,s,p,.bool false,cO false (vd C C (fun d=>by simp [Op.equalIn,run_underlying ad])).1 a',.refl w p,.refl s w p,aI.wf,⟨rfl,.inr C⟩,.bool _⟩
 | aA g off n cap _ vs _ _ az aB aC aF ar hm aE cv ah=>exact ⟨_,_,s,p,.bool false,cO false (vd C C (fun d=>by simp [Op.equalIn,run_underlying ad])).1 a',.refl w p,.refl s w p,aI.wf,⟨rfl,.inr C⟩,.bool _⟩
def aN (J:ao→Prop) (P:Program) (Γ:cw) (N:Nat) (l:List Oper) (i:Nat) (rest:List Oper) (Q:b8→Env→ao→Prop) (env:Env) (s:ao):Prop:=
 rk l.toArray=true→l.drop i=rest→J s→bm J P Γ N l.toArray Q (bV (2^i-1)) env s
theorem C9 (i:Nat):(2^i-1)|||2^i=2^(i+1)-1:=by
 apply Nat.eq_of_testBit_eq;intro j;rw [Nat.testBit_or,testBit_two_pow_sub_one,testBit_two_pow_sub_one,Nat.testBit_two_pow];by_cases h:i=j
 ·subst h;simp
 ·by_cases ad:j<i
  ·simp [ad];omega
  ·simp [ad,h];omega
theorem wg {α:Type} {l:List α} {i:Nat} {o:α} {rest:List α} (h:l.drop i=o::rest):l[i]? = some o∧l.drop (i+1)=rest:=by
 have U:l[i]? = some o:=by
  have:=congrArg (fun x=>x[0]?) h;simpa using this
 refine ⟨U,?_⟩;have:l.drop (i+1)=(l.drop i).drop 1:=by rw [List.drop_drop]
 rw [this,h];rfl
theorem Gn {l:List Oper} (dE:rk l.toArray=true) {i:Nat} {o:Oper} (ah:l[i]? = some o):hf l.toArray (bV (2^i-1)) i:=by
 refine ⟨by simpa using (List.getElem?_eq_some_iff.1 ah).1,?_,fun j aK=>?_⟩
 ·simp [bV,testBit_two_pow_sub_one]
 ·have:=(Ff dE).back i j aK
  simp [bV,testBit_two_pow_sub_one,this]
section
variable {J:ao→Prop} {P:Program} {Γ:cw} {N:Nat} {l:List Oper} {i:Nat} {rest:List Oper} {Q:b8→Env→ao→Prop} {env:Env} {s:ao} {o:Oper} {d:Nat}
theorem ae.lK (aP:bQ P Γ) (hm:P.follows .mixedOrders=true) {id:Nat} (dE:rk l.toArray=true) (h:aN (fun aj=>aj=s) P Γ N l 0 l Q env s):ae P N (.region id l.toArray true) Q env s:=
 ae.qm _ aP hm dE (h dE C C)
theorem ae.xN (aP:bQ P Γ) (hm:P.follows .mixedOrders=true) {id:Nat} (dE:rk l.toArray=true) (h:aN nf P Γ N l 0 l Q env s):ae P N (.region id l.toArray true) Q env s:=
 ae.qm _ aP hm dE (h dE C trivial)
theorem aN.nil (h:Q .normal env s):aN J P Γ N l i [] Q env s:=fun dE jt _=>by
 refine bm.fin (fun j aK=>?_) h;have:l.length≤i:=by simpa using jt
 have aK:j<l.length:=by simpa using aK
 simp [bV,testBit_two_pow_sub_one];omega
theorem aN.still {v:af} (ax:o.dst=some d) (aU:d<N) (av:Still J P Γ N l.toArray o (bZ l env o) v) (h:aN J P Γ N l (i+1) rest Q ((d,v)::env) s):aN J P Γ N l i (o::rest) Q env s:=fun dE jt cy=>by
 obtain ⟨ah,qD⟩:=wg jt;refine bm.still cy i o d v (Gn dE ah) (by simpa using ah) ax aU av ?_;rw [oC,C9];exact h dE qD cy
theorem aN.step {v:af} (aM:vH Γ N l.toArray (bZ l env o) o=some (d,v)) (h:aN J P Γ N l (i+1) rest Q ((d,v)::env) s):aN J P Γ N l i (o::rest) Q env s:=by
 obtain ⟨U,ad,al⟩:=Ck (J:=J) (P:=P) aM;exact aN.still U ad al h
def runK (Γ:cw) (N:Nat) (ops:Array Oper):List Oper→Nat→Env→List Oper×Nat×Env
  | [],i,env=>([],i,env)
  | o::l,i,env=>match vH Γ N ops (iw env (looks ops o)) o with
    | some (d,v)=>runK Γ N ops l (i+1) ((d,v)::env)
    | none=>(o::l,i,env)
theorem aN.run {K6:List Oper} {BP:Nat} {eP:Env} (h:runK Γ N l.toArray rest i env=(K6,BP,eP)) (aE:aN J P Γ N l BP K6 Q eP s):aN J P Γ N l i rest Q env s:=by
 induction rest generalizing i env with
 | nil=>simp only [runK,Prod.mk.injEq] at h;obtain ⟨rfl,rfl,rfl⟩:=h;exact aE
 | cons o r a1=>
  simp only [runK] at h;split at h
  ·rename_i d v aM
   exact aN.step aM (a1 h)
  ·simp only [Prod.mk.injEq] at h;obtain ⟨rfl,rfl,rfl⟩:=h;exact aE
theorem aN.pure {v:af} (aw:c7 l env o) (ax:o.dst=some d) (aU:Nat.blt d N=true) (av:lD Γ o (bZ l env o) v) (h:aN J P Γ N l (i+1) rest Q ((d,v)::env) s):aN J P Γ N l i (o::rest) Q env s:=
 aN.still ax Cn (.inl ⟨aw,av⟩) h
theorem aN.iv {v:af} (aw:c7 l env o) (ax:o.dst=some d) (aU:Nat.blt d N=true) (av:vw Γ o (bZ l env o)=some v) (h:aN J P Γ N l (i+1) rest Q ((d,v)::env) s):aN J P Γ N l i (o::rest) Q env s:=
 aN.pure aw ax aU (.x av) h
theorem aN.calm {v:af} (aw:c7 l env o) (ax:o.dst=some d) (aU:Nat.blt d N=true) (av:∀ s,J s→aZ P N o (bZ l env o) s (fun x aj=>x=v∧aj=s) (fun _ _=>False)) (h:aN J P Γ N l (i+1) rest Q ((d,v)::env) s):aN J P Γ N l i (o::rest) Q env s:=
 aN.still ax Cn (.inr (.inr ⟨aw,av⟩)) h
theorem aN.idx {t e:TypeId} {x y:Operand} {it aG:bM} {sz:Nat} {xs:List af} {own:bL} {k:IntKind} {n:Int} (j:Nat) {v:af} {cs:List af} (aw:c7 l env o) (ax:o.dst=some d) (aU:Nat.blt d N=true) (b2:o.op = .indexAddr t x y) (aM:Γ.get? t=some it) (br:it.bF = .aA e) (bI:Γ.get? e=some aG)
  (ab:aJ (bZ l env o) x=some (.aA sz xs own)) (b':sz=aG.size) (ay:aJ (bZ l env o) y=some (.int k n)) (eK:n=(j:Int)) (aK:xs[j]? = some v) (aC:cellsOf v=some cs)
  (h:aN J P Γ N l (i+1) rest Q ((d,.bw cs 0)::env) s):aN J P Γ N l i (o::rest) Q env s:=
 aN.pure aw ax aU (.idx j b2 aM br bI ab b' ay eK aK aC) h
theorem aN.slice {t e:TypeId} {x:Operand} {gC aQ jm:Option Operand} {it aG:bM} {sz:Nat} {xs:List af} {own cQ:bL} (a b:Nat) (aw:c7 l env o) (ax:o.dst=some d) (aU:Nat.blt d N=true)
  (b2:o.op = .slice t x gC aQ jm)
  (aM:Γ.get? t=some it) (br:it.bF = .aA e) (bI:Γ.get? e=some aG) (ab:aJ (bZ l env o) x=some (.aA sz xs own)) (b':xs=[]∨sz=aG.size)
  (iM:(gC=none∧a=0)∨∃ y k,gC=some y∧aJ (bZ l env o) y=some (.int k (a:Int))) (qe:(aQ=none∧jm=none∧b=xs.length)∨∃ y k,aQ=some y∧aJ (bZ l env o) y=some (.int k (b:Int)))
  (m':(jm=none∧cQ = .bb)∨(∃ y k,jm=some y∧aJ (bZ l env o) y=some (.int k (b:Int))∧cQ = .clip)) (aB:a≤b) (cX:b≤xs.length)
  (h:aN J P Γ N l (i+1) rest Q ((d,.aA sz ((xs.take b).drop a) cQ)::env) s):aN J P Γ N l i (o::rest) Q env s:=
 aN.pure aw ax aU (.slice a b b2 aM br bI ab b' iM qe m' aB cX) h
theorem aN.eg {f:FuncId} {fN:Array Operand} {c6:Array TypeId} {xs:List af} {v:af} (aw:c7 l env o) (ax:o.dst=some d) (aU:Nat.blt d N=true)
  (b2:o.op = .call { callee := .value (.func f),args:=fN,argTypes:=c6 }) (a7:fM (bZ l env o) fN.toList=some xs) (aC:aR P f xs v) (h:aN J P Γ N l (i+1) rest Q ((d,v)::env) s):aN J P Γ N l i (o::rest) Q env s:=
 aN.calm aw ax aU (fun s _=>(aZ.call b2 (fv := .func f [] []) rfl a7 (hL.fk (R:=fun o aj=>o = .ret v∧aj=s) (by simpa using aC s))).mono (fun x aj h=>by cases h.1;exact ⟨rfl,h.2⟩) (fun x aj h=>by cases h.1)) h
theorem aN.l' {g:Operand} {fv:af} {fN:Array Operand} {c6:Array TypeId} {xs:List af} {v:af} (aw:c7 l env o) (ax:o.dst=some d) (aU:Nat.blt d N=true)
  (b2:o.op = .call { callee := .value g,args:=fN,argTypes:=c6 }) (av:aJ (bZ l env o) g=some fv) (a7:fM (bZ l env o) fN.toList=some xs) (aC:eA P fv xs v) (h:aN J P Γ N l (i+1) rest Q ((d,v)::env) s):aN J P Γ N l i (o::rest) Q env s:=
 aN.calm aw ax aU (fun s _=>(aZ.call b2 av a7 (aC s)).mono (fun x aj h=>by cases h.1;exact ⟨rfl,h.2⟩) (fun x aj h=>by cases h.1)) h
theorem aN.eB {L R:a8} (aP:bQ P Γ) (I:Ok s L) {t T:TypeId} {x:Operand} {dX:bM} {b off:Nat} {cs:List af} {v:af} (aw:c7 l env o) (ax:o.dst=some d) (aU:Nat.blt d N=true)
  (b2:o.op = .load t x) (aM:Γ.get? t=some dX) (ab:aJ (bZ l env o) x=some (.ptr b off)) (ar:bp L (.own b) (.box T cs) R) (av:hI dX cs off=some v)
  (h:aN (fun aj=>aj=aT s L) P Γ N l (i+1) rest Q ((d,v)::env) (aT s L)):aN (fun aj=>aj=aT s L) P Γ N l i (o::rest) Q env (aT s L):=
 aN.calm aw ax aU (fun _ e=>by subst e;exact aZ.eB aP I b2 aM ab ar av) h
theorem aN.split (t:Nat) {b:Bool} (av:env.get? t=some (.bool b)) (ez:b=true→aN J P Γ N l i rest Q ((t,.bool true)::env) s) (lF:b=false→aN J P Γ N l i rest Q ((t,.bool false)::env) s):aN J P Γ N l i rest Q env s:=by
 have U:∀ u,Env.get? ((t,.bool b)::env) u=env.get? u:=fun u=>by
  rw [Env.get?];split
  ·rename_i hu;rw [← eq_of_beq_eq_true hu];exact av.symm
  ·rfl
 intro dE jt cy;refine bm.congr _ U ?_;cases b with
 | true=>exact ez C dE jt cy
 | false=>exact lF C dE jt cy
theorem aN.gV {t:Nat} {b:Bool} (ar:JY l.toArray o=some t) (av:env.get? t=some (.bool b)) (ez:b=true→aN J P Γ N l i (o::rest) Q ((t,.bool true)::env) s) (lF:b=false→aN J P Γ N l i (o::rest) Q ((t,.bool false)::env) s):aN J P Γ N l i (o::rest) Q env s:=
 aN.split t av ez lF
theorem aN.same (b:Bool) (aw:guardOf l.toArray (bZ l env o) o=some b) (h:aN J P Γ N l i (o::rest) Q env s):aN J P Γ N l i (o::rest) Q env s:=h
theorem K7 {l:List Oper} (dE:rk l.toArray=true) {i:Nat} {o:Oper} (jt:l.drop i=[o]):∀ j,hf l.toArray (bV (2^i-1)) j→j=i:=fun j aK=>by
 obtain ⟨ah,qD⟩:=wg jt;have ad:l.length≤i+1:=by simpa using qD
 have al:j<l.length:=by simpa using aK.1
 have bd:=aK.2.1;simp [bV,testBit_two_pow_sub_one] at bd;omega
theorem K8 {l:List Oper} {i:Nat} {o:Oper} (jt:l.drop i=[o]):∀ j,j<l.toArray.size→ee (bV (2^i-1)) i j=true:=fun j aK=>by
 obtain ⟨ah,qD⟩:=wg jt;have ad:l.length≤i+1:=by simpa using qD
 have al:j<l.length:=by simpa using aK
 rw [oC,C9];simp [bV,testBit_two_pow_sub_one];omega
theorem aN.last {K X:af→ao→Prop} (aw:c7 l env o) (ax:o.dst=some d) (aU:Nat.blt d N=true) (lP:ko l.toArray i=true) (h:aZ P N o (bZ l env o) s K X)
  (aE:∀ x aj,K x aj→Q .normal ((d,x)::env) aj) (ab:∀ x aj,X x aj→Q (.panic x) [] aj):aN J P Γ N l i [o] Q env s:=fun dE jt _=>by
 obtain ⟨ah,qD⟩:=wg jt;have iX:=Gn dE ah;have fl:=K7 dE jt;refine bm.split (fun _=>K) (fun _=>X) ⟨i,iX.1,iX.2.1⟩ (fun j o' aK cC=>?_) (fun j o' vI cC x aj bg=>by have:=fl j vI;subst this;exact .inr (Cm lP)) (fun j o' c3 aK cC cl x aj bg=>?_) (fun j o' aK cC cl x aj bg=>?_) (fun j o' aK cC x aj iq=>ab x aj iq)
 ·have:=fl j aK;subst this
  have cC:l[j]? = some o':=by simpa using cC
  rw [ah] at cC;cases cC;exact ⟨aw,h,fun c3 cl=>by rw [ax] at cl;cases cl;simpa [Nat.blt_eq] using aU⟩
 ·have:=fl j aK;subst this
  have cC:l[j]? = some o':=by simpa using cC
  rw [ah] at cC;cases cC;rw [ax] at cl;cases cl;exact bm.fin (K8 jt) (aE x aj bg)
 ·have:=fl j aK;subst this
  have cC:l[j]? = some o':=by simpa using cC
  rw [ah] at cC;cases cC;rw [ax] at cl;cases cl
theorem aN.Gp {K X:af→ao→Prop} (aw:c7 l env o) (ax:o.dst=none) (lP:ko l.toArray i=true) (h:aZ P N o (bZ l env o) s K X)
  (aE:∀ x aj,K x aj→Q .normal env aj) (ab:∀ x aj,X x aj→Q (.panic x) [] aj):aN J P Γ N l i [o] Q env s:=fun dE jt _=>by
 obtain ⟨ah,qD⟩:=wg jt;have iX:=Gn dE ah;have fl:=K7 dE jt;refine bm.split (fun _=>K) (fun _=>X) ⟨i,iX.1,iX.2.1⟩ (fun j o' aK cC=>?_) (fun j o' vI cC x aj bg=>by have:=fl j vI;subst this;exact .inr (Cm lP)) (fun j o' c3 aK cC cl x aj bg=>?_) (fun j o' aK cC cl x aj bg=>?_) (fun j o' aK cC x aj iq=>ab x aj iq)
 ·have:=fl j aK;subst this
  have cC:l[j]? = some o':=by simpa using cC
  rw [ah] at cC;cases cC;exact ⟨aw,h,fun c3 cl=>by rw [ax] at cl;cases cl⟩
 ·have:=fl j aK;subst this
  have cC:l[j]? = some o':=by simpa using cC
  rw [ah] at cC;cases cC;rw [ax] at cl;cases cl
 ·have:=fl j aK;subst this
  have cC:l[j]? = some o':=by simpa using cC
  rw [ah] at cC;cases cC;exact bm.fin (K8 jt) (aE x aj bg)
theorem aN.cT {L R:a8} (aP:bQ P Γ) (I:Ok s L) {t T:TypeId} {x y:Operand} {dX:bM} {b off:Nat} {cs us:List af} {v:af} (aw:c7 l env o) (ax:o.dst=none) (lP:ko l.toArray i=true)
  (b2:o.op = .store t x y) (aM:Γ.get? t=some dX) (ab:aJ (bZ l env o) x=some (.ptr b off)) (ay:aJ (bZ l env o) y=some v)
  (av:cellsOf v=some us) (hu:Nat.beq us.length dX.size=true) (U:us.all e7=true) (ar:bp L (.own b) (.box T cs) R) (fy:Nat.ble (off+us.length) cs.length=true)
  (h:Ok s ((.own b,.box T (eQ off us cs))::R)→Q .normal env (aT s ((.own b,.box T (eQ off us cs))::R))):aN J P Γ N l i [o] Q env (aT s L):=
 aN.Gp aw ax lP (aZ.cT aP I b2 aM ab ay av hu U ar fy (X:=fun _ _=>False)) (fun x aj ⟨U,ad⟩=>by subst U;exact h ad) (fun _ _ h=>h.elim)
theorem aN.b3 {L R K:a8} {acs:ey→a8→Prop} {f:FuncId} {fN:Array Operand} {c6:Array TypeId} {xs:List af} (aw:c7 l env o) (ax:o.dst=some d) (aU:Nat.blt d N=true) (lP:ko l.toArray i=true)
  (b2:o.op = .call { callee := .value (.func f),args:=fN,argTypes:=c6 }) (a7:fM (bZ l env o) fN.toList=some xs) (h:bE P f xs K acs) (I:Ok s L) (ar:aH L K R)
  (aE:∀ x aO,acs (.ret x) aO→Ok s (aO++R)→Q .normal ((d,x)::env) (aT s (aO++R))) (ab:∀ x aO,acs (.panic x) aO→Ok s (aO++R)→Q (.panic x) [] (aT s (aO++R))):aN J P Γ N l i [o] Q env (aT s L):=
 aN.last aw ax aU lP (aZ.b3 b2 a7 h I ar) (fun x aj ⟨aO,U,ad,al⟩=>by subst U;exact aE x aO al ad) (fun x aj ⟨aO,U,ad,al⟩=>by subst U;exact ab x aO al ad)
theorem aN.x0 {K X:af→ao→Prop} (aw:c7 l env o) (ax:o.dst=some d) (aU:Nat.blt d N=true) (aF:eE l.toArray (2^i-1) (idxs 0 l)=[i]) (h:aZ P N o (bZ l env o) s K X) (aK:∀ x aj,K x aj→J aj)
  (aE:∀ x aj,K x aj→aN J P Γ N l (i+1) rest Q ((d,x)::env) aj) (ab:∀ x aj,X x aj→Q (.panic x) [] aj):aN J P Γ N l i (o::rest) Q env s:=fun dE jt _=>by
 obtain ⟨ah,qD⟩:=wg jt;refine bm.one aF (by simpa using ah) ax aU aw h (fun x aj bg => .inl (aK x aj bg)) (fun x aj bg=>?_) ab;rw [C9];exact aE x aj bg dE qD (aK x aj bg)
theorem aN.Tt {K X:af→ao→Prop} (aw:c7 l env o) (ax:o.dst=none) (aF:eE l.toArray (2^i-1) (idxs 0 l)=[i]) (h:aZ P N o (bZ l env o) s K X) (aK:∀ x aj,K x aj→J aj)
  (aE:∀ x aj,K x aj→aN J P Γ N l (i+1) rest Q env aj) (ab:∀ x aj,X x aj→Q (.panic x) [] aj):aN J P Γ N l i (o::rest) Q env s:=fun dE jt _=>by
 obtain ⟨ah,qD⟩:=wg jt;refine bm.xG aF (by simpa using ah) ax aw h (fun x aj bg => .inl (aK x aj bg)) (fun x aj bg=>?_) ab;rw [C9];exact aE x aj bg dE qD (aK x aj bg)
theorem aN.K9 {L:a8} (aP:bQ P Γ) (I:Ok s L) {t:TypeId} {dX:bM} {z:af} {cs:List af} (aw:c7 l env o) (ax:o.dst=some d) (aU:Nat.blt d N=true) (aF:eE l.toArray (2^i-1) (idxs 0 l)=[i])
  (b2:o.op = .alloc t) (aM:Γ.get? t=some dX) (bO:hx dX.zero=some z) (aC:cellsOf z=some cs)
  (h:∀ b,Ok s ((.own b,.box t cs)::L)→aN nf P Γ N l (i+1) rest Q ((d,.ptr b 0)::env) (aT s ((.own b,.box t cs)::L))):aN nf P Γ N l i (o::rest) Q env (aT s L):=
 aN.x0 aw ax aU aF (aZ.dY aP I b2 aM bO aC (X:=fun _ _=>False)) (fun _ _ _=>trivial) (fun x aj ⟨b,U,ad,al⟩=>by subst U;subst ad;exact h b al) (fun _ _ h=>h.elim)
theorem aN.storeT {L R:a8} (aP:bQ P Γ) (I:Ok s L) {t T:TypeId} {x y:Operand} {dX:bM} {b off:Nat} {cs us:List af} {v:af} (aw:c7 l env o) (ax:o.dst=none) (aF:eE l.toArray (2^i-1) (idxs 0 l)=[i])
  (b2:o.op = .store t x y) (aM:Γ.get? t=some dX) (ab:aJ (bZ l env o) x=some (.ptr b off)) (ay:aJ (bZ l env o) y=some v)
  (av:cellsOf v=some us) (hu:Nat.beq us.length dX.size=true) (U:us.all e7=true) (ar:bp L (.own b) (.box T cs) R) (fy:Nat.ble (off+us.length) cs.length=true)
  (h:Ok s ((.own b,.box T (eQ off us cs))::R)→aN nf P Γ N l (i+1) rest Q env (aT s ((.own b,.box T (eQ off us cs))::R))):aN nf P Γ N l i (o::rest) Q env (aT s L):=
 aN.Tt aw ax aF (aZ.cT aP I b2 aM ab ay av hu U ar fy (X:=fun _ _=>False)) (fun _ _ _=>trivial) (fun x aj ⟨U,ad⟩=>by subst U;exact h ad) (fun _ _ h=>h.elim)
theorem aN.loadT {L R:a8} (aP:bQ P Γ) (I:Ok s L) {t T:TypeId} {x:Operand} {dX:bM} {b off:Nat} {cs:List af} {v:af} (aw:c7 l env o) (ax:o.dst=some d) (aU:Nat.blt d N=true) (aF:eE l.toArray (2^i-1) (idxs 0 l)=[i])
  (b2:o.op = .load t x) (aM:Γ.get? t=some dX) (ab:aJ (bZ l env o) x=some (.ptr b off)) (ar:bp L (.own b) (.box T cs) R) (av:hI dX cs off=some v)
  (h:aN nf P Γ N l (i+1) rest Q ((d,v)::env) (aT s L)):aN nf P Γ N l i (o::rest) Q env (aT s L):=
 aN.x0 aw ax aU aF (aZ.eB aP I b2 aM ab ar av (X:=fun _ _=>False)) (fun _ _ _=>trivial) (fun x aj ⟨U,ad⟩=>by subst U;subst ad;exact h) (fun _ _ h=>h.elim)
theorem aN.ky {L R K:a8} {acs:ey→a8→Prop} {f:FuncId} {fN:Array Operand} {c6:Array TypeId} {xs:List af} (aw:c7 l env o) (ax:o.dst=some d) (aU:Nat.blt d N=true) (aF:eE l.toArray (2^i-1) (idxs 0 l)=[i])
  (b2:o.op = .call { callee := .value (.func f),args:=fN,argTypes:=c6 }) (a7:fM (bZ l env o) fN.toList=some xs) (h:bE P f xs K acs) (I:Ok s L) (ar:aH L K R)
  (aE:∀ x aO,acs (.ret x) aO→Ok s (aO++R)→aN nf P Γ N l (i+1) rest Q ((d,x)::env) (aT s (aO++R))) (ab:∀ x aO,acs (.panic x) aO→Ok s (aO++R)→Q (.panic x) [] (aT s (aO++R))):aN nf P Γ N l i (o::rest) Q env (aT s L):=
 aN.x0 aw ax aU aF (aZ.b3 b2 a7 h I ar) (fun _ _ _=>trivial) (fun x aj ⟨aO,U,ad,al⟩=>by subst U;exact aE x aO al ad) (fun x aj ⟨aO,U,ad,al⟩=>by subst U;exact ab x aO al ad)
end
def x1 (i:bM):Bool:=match i.bF with
 | .struct _=>false
 | .arr _ _=>false
 | .other=>false
 | _=>true
theorem Tu {cs:List af} {off:Nat} {v:af} (h:cs[off]? = some v):p9 off cs=some (v::cs.drop (off+1)):=by
 induction off generalizing cs with
 | zero=>
  cases cs with
  | nil=>cases h
  | cons x r=>simp at h;subst h;rfl
 | succ n a1=>
  cases cs with
  | nil=>cases h
  | cons x r=>
   have:=a1 (cs:=r) fD;simp only [p9,List.drop_succ_cons];exact this
theorem pC {i:bM} {cs:List af} {off:Nat} {v:af} (U:x1 i=true) (h:cs[off]? = some v):hI i cs off=some v:=by
 unfold hI x1 at *;rw [Tu h];simp only;split at U<;>simp_all
section
variable {J:ao→Prop} {P:Program} {Γ:cw} {N:Nat} {ops:Array Oper} {l:List Oper} {i:Nat} {rest:List Oper} {Q:b8→Env→ao→Prop} {env:Env} {s:ao} {o:Oper} {d:Nat}
theorem aZ.K' (aP:bQ P Γ) {t:TypeId} {x:Operand} {dX:bM} {off:Nat} {cs:List af} {v:af} (b2:o.op = .load t x) (aM:Γ.get? t=some dX) (ab:aJ env x=some (.bw cs off)) (av:hI dX cs off=some v) :
  aZ P N o env s (fun x aj=>x=v∧aj=s) (fun _ _=>False):=
 aZ.m3 (by simp [gE,b2]) fun ro B a w p aI=>Jd aP aI b2 aM ab av
theorem aa.Ag (aP:bQ P Γ) {t:TypeId} {x:Operand} {dX:bM} {off:Nat} {cs:List af} {v:af} (aw:guardOf ops env o=some true) (ax:o.dst=some d) (aU:Nat.blt d N=true) (b2:o.op = .load t x) (aM:Γ.get? t=some dX) (ab:aJ env x=some (.bw cs off)) (U:x1 dX=true) (av:cs[off]? = some v)
  (h:aa P N ops rest Q ((d,v)::env) s):aa P N ops (o::rest) Q env s:=
 aa.op aw ax aU (aZ.K' aP b2 aM ab (pC U av)) (fun x aj ⟨U,ad⟩=>by subst U;subst ad;exact h) (fun _ _ h=>h.elim)
theorem aN.Ag (aP:bQ P Γ) {t:TypeId} {x:Operand} {dX:bM} {off:Nat} {cs:List af} {v:af} (aw:c7 l env o) (ax:o.dst=some d) (aU:Nat.blt d N=true) (b2:o.op = .load t x) (aM:Γ.get? t=some dX) (ab:aJ (bZ l env o) x=some (.bw cs off)) (U:x1 dX=true) (av:cs[off]? = some v)
  (h:aN J P Γ N l (i+1) rest Q ((d,v)::env) s):aN J P Γ N l i (o::rest) Q env s:=
 aN.calm aw ax aU (fun s _=>aZ.K' aP b2 aM ab (pC U av)) h
theorem aa.jW {L R:a8} (aP:bQ P Γ) (I:Ok s L) {t T:TypeId} {x:Operand} {dX:bM} {b off:Nat} {cs:List af} {v:af} (aw:guardOf ops env o=some true) (ax:o.dst=some d) (aU:Nat.blt d N=true) (b2:o.op = .load t x) (aM:Γ.get? t=some dX) (ab:aJ env x=some (.ptr b off)) (ar:bp L (.own b) (.box T cs) R) (U:x1 dX=true) (av:cs[off]? = some v)
  (h:aa P N ops rest Q ((d,v)::env) (aT s L)):aa P N ops (o::rest) Q env (aT s L):=
 aa.eB aP I aw ax aU b2 aM ab ar (pC U av) h
theorem aN.jW {L R:a8} (aP:bQ P Γ) (I:Ok s L) {t T:TypeId} {x:Operand} {dX:bM} {b off:Nat} {cs:List af} {v:af} (aw:c7 l env o) (ax:o.dst=some d) (aU:Nat.blt d N=true) (b2:o.op = .load t x) (aM:Γ.get? t=some dX) (ab:aJ (bZ l env o) x=some (.ptr b off)) (ar:bp L (.own b) (.box T cs) R) (U:x1 dX=true) (av:cs[off]? = some v)
  (h:aN (fun aj=>aj=aT s L) P Γ N l (i+1) rest Q ((d,v)::env) (aT s L)):aN (fun aj=>aj=aT s L) P Γ N l i (o::rest) Q env (aT s L):=
 aN.eB aP I aw ax aU b2 aM ab ar (pC U av) h
theorem aN.lN (aP:bQ P Γ) {t e:TypeId} {x y:Operand} {it aG:bM} {k:IntKind} {len off:Nat} {cs:List af} {z:Int} (j:Nat) (aw:c7 l env o) (ax:o.dst=some d) (aU:Nat.blt d N=true) (ah:o.op = .indexAddr t x y) (aM:Γ.get? t=some it) (br:it.bF = .arr len e) (bI:Γ.get? e=some aG) (ab:aJ (bZ l env o) x=some (.bw cs off)) (ay:aJ (bZ l env o) y=some (.int k z)) (eK:z=(j:Int)) (aK:j<len)
  (h:aN J P Γ N l (i+1) rest Q ((d,.bw cs (off+j*aG.size))::env) s):aN J P Γ N l i (o::rest) Q env s:=
 aN.calm aw ax aU (fun s _=>aZ.lN aP ah aM br bI ab ay eK aK) h
theorem aN.arr (aP:bQ P Γ) {t e:TypeId} {x y:Operand} {it aG:bM} {k:IntKind} {len b off:Nat} {z:Int} (j:Nat) (aw:c7 l env o) (ax:o.dst=some d) (aU:Nat.blt d N=true) (ah:o.op = .indexAddr t x y) (aM:Γ.get? t=some it) (br:it.bF = .arr len e) (bI:Γ.get? e=some aG) (ab:aJ (bZ l env o) x=some (.ptr b off)) (ay:aJ (bZ l env o) y=some (.int k z)) (eK:z=(j:Int)) (aK:j<len)
  (h:aN J P Γ N l (i+1) rest Q ((d,.ptr b (off+j*aG.size))::env) s):aN J P Γ N l i (o::rest) Q env s:=
 aN.calm aw ax aU (fun s _=>aZ.arr aP ah aM br bI ab ay eK aK) h
theorem aN.jX {L R:a8} (aP:bQ P Γ) (I:Ok s L) {t T:TypeId} {x y:Operand} {dX:bM} {b off:Nat} {cs us:List af} {v:af} (cs':List af) (aw:c7 l env o) (ax:o.dst=none) (lP:ko l.toArray i=true)
  (b2:o.op = .store t x y) (aM:Γ.get? t=some dX) (ab:aJ (bZ l env o) x=some (.ptr b off)) (ay:aJ (bZ l env o) y=some v)
  (av:cellsOf v=some us) (hu:Nat.beq us.length dX.size=true) (U:us.all e7=true) (ar:bp L (.own b) (.box T cs) R) (fy:off+us.length≤cs.length) (he:eQ off us cs=cs')
  (h:Ok s ((.own b,.box T cs')::R)→Q .normal env (aT s ((.own b,.box T cs')::R))):aN J P Γ N l i [o] Q env (aT s L):=by
 subst he;exact aN.cT aP I aw ax lP b2 aM ab ay av hu U ar (by simpa [Nat.ble_eq] using fy) h
theorem aa.jX {L R:a8} (aP:bQ P Γ) (I:Ok s L) {t T:TypeId} {x y:Operand} {dX:bM} {b off:Nat} {cs us:List af} {v:af} (cs':List af) (aw:guardOf ops env o=some true) (ax:o.dst=none)
  (b2:o.op = .store t x y) (aM:Γ.get? t=some dX) (ab:aJ env x=some (.ptr b off)) (ay:aJ env y=some v)
  (av:cellsOf v=some us) (hu:Nat.beq us.length dX.size=true) (U:us.all e7=true) (ar:bp L (.own b) (.box T cs) R) (fy:off+us.length≤cs.length) (he:eQ off us cs=cs')
  (h:Ok s ((.own b,.box T cs')::R)→aa P N ops rest Q env (aT s ((.own b,.box T cs')::R))):aa P N ops (o::rest) Q env (aT s L):=by
 subst he;exact aa.cT aP I aw ax b2 aM ab ay av hu U ar (by simpa [Nat.ble_eq] using fy) h
theorem pD {off:Nat} {v:af}:∀ {cs:List af},eQ off [v] cs=cs.set off v:=by
  induction off with
  | zero=>intro cs;cases cs<;>rfl
  | succ n a1=>intro cs;cases cs with
    | nil=>rfl
    | cons x r=>exact congrArg (x :: ·) (a1 (cs:=r))
theorem aa.lL {f:FuncId} {fN:Array Operand} {c6:Array TypeId} {xs ys:List af} {v:af} (aw:guardOf ops env o=some true) (ax:o.dst=some d) (aU:Nat.blt d N=true)
  (b2:o.op = .call { callee := .value (.func f),args:=fN,argTypes:=c6 }) (a7:fM env fN.toList=some xs) (h:aR P f ys v) (aB:cR xs ys) (aE:aa P N ops rest Q ((d,v)::env) s):aa P N ops (o::rest) Q env s:=
 aa.eg aw ax aU b2 a7 (aR.args aB h) aE
theorem aN.lL {f:FuncId} {fN:Array Operand} {c6:Array TypeId} {xs ys:List af} {v:af} (aw:c7 l env o) (ax:o.dst=some d) (aU:Nat.blt d N=true)
  (b2:o.op = .call { callee := .value (.func f),args:=fN,argTypes:=c6 }) (a7:fM (bZ l env o) fN.toList=some xs) (aC:aR P f ys v) (aB:cR xs ys) (h:aN J P Γ N l (i+1) rest Q ((d,v)::env) s):aN J P Γ N l i (o::rest) Q env s:=
 aN.eg aw ax aU b2 a7 (aR.args aB aC) h
theorem ae.uh {L R:a8} (I:Ok s L) (b:Nat) {dD:dC} (ar:bp L (.own b) dD R) (aP:bQ P Γ) (hm:P.follows .mixedOrders=true) {id:Nat} (dE:rk l.toArray=true) (h:aN (fun aj=>aj b=some dD) P Γ N l 0 l Q env (aT s L)):ae P N (.region id l.toArray true) Q env (aT s L):=
 ae.qm _ aP hm dE (h dE C (ar.get I))
theorem aN.rq (aP:bQ P Γ) {t T:TypeId} {x:Operand} {dX:bM} {b off:Nat} {cs:List af} {v:af} (aw:c7 l env o) (ax:o.dst=some d) (aU:Nat.blt d N=true)
  (b2:o.op = .load t x) (aM:Γ.get? t=some dX) (ab:aJ (bZ l env o) x=some (.ptr b off)) (av:hI dX cs off=some v)
  (h:aN (fun aj=>aj b=some (.box T cs)) P Γ N l (i+1) rest Q ((d,v)::env) s):aN (fun aj=>aj b=some (.box T cs)) P Γ N l i (o::rest) Q env s:=
 aN.calm aw ax aU (fun s cy=>aZ.tM aP b2 aM ab cy av) h
theorem aN.Ah {L R K:a8} {acs:ey→a8→Prop} {b:Nat} {dD:dC} {g:Operand} {fv:af} {fN:Array Operand} {c6:Array TypeId} {xs:List af} (aw:c7 l env o) (ax:o.dst=some d) (aU:Nat.blt d N=true) (aF:eE l.toArray (2^i-1) (idxs 0 l)=[i])
  (b2:o.op = .call { callee := .value g,args:=fN,argTypes:=c6 }) (av:aJ (bZ l env o) g=some fv) (a7:fM (bZ l env o) fN.toList=some xs) (h:dp P fv xs K acs) (I:Ok s L) (ar:aH L K R)
  (aK:∀ x aO,acs (.ret x) aO→∃ dt,bp (aO++R) (.own b) dD dt)
  (aE:∀ x aO,acs (.ret x) aO→Ok s (aO++R)→aN (fun aj=>aj b=some dD) P Γ N l (i+1) rest Q ((d,x)::env) (aT s (aO++R))) (ab:∀ x aO,acs (.panic x) aO→Ok s (aO++R)→Q (.panic x) [] (aT s (aO++R))):aN (fun aj=>aj b=some dD) P Γ N l i (o::rest) Q env (aT s L):=
 aN.x0 aw ax aU aF (aZ.gH b2 av a7 h I ar) (fun x aj ⟨aO,U,ad,al⟩=>by subst U;obtain ⟨dt,hz⟩:=aK x aO al;exact hz.get ad) (fun x aj ⟨aO,U,ad,al⟩=>by subst U;exact aE x aO al ad) (fun x aj ⟨aO,U,ad,al⟩=>by subst U;exact ab x aO al ad)
theorem aN.Tv {L R K:a8} {acs:ey→a8→Prop} {g:Operand} {fv:af} {fN:Array Operand} {c6:Array TypeId} {xs:List af} (aw:c7 l env o) (ax:o.dst=some d) (aU:Nat.blt d N=true) (aF:eE l.toArray (2^i-1) (idxs 0 l)=[i])
  (b2:o.op = .call { callee := .value g,args:=fN,argTypes:=c6 }) (av:aJ (bZ l env o) g=some fv) (a7:fM (bZ l env o) fN.toList=some xs) (h:dp P fv xs K acs) (I:Ok s L) (ar:aH L K R)
  (aE:∀ x aO,acs (.ret x) aO→Ok s (aO++R)→aN nf P Γ N l (i+1) rest Q ((d,x)::env) (aT s (aO++R))) (ab:∀ x aO,acs (.panic x) aO→Ok s (aO++R)→Q (.panic x) [] (aT s (aO++R))):aN nf P Γ N l i (o::rest) Q env (aT s L):=
 aN.x0 aw ax aU aF (aZ.gH b2 av a7 h I ar) (fun _ _ _=>trivial) (fun x aj ⟨aO,U,ad,al⟩=>by subst U;exact aE x aO al ad) (fun x aj ⟨aO,U,ad,al⟩=>by subst U;exact ab x aO al ad)
end
theorem Tw {w:World} {p:bR} {s:ao} (cc:dm w p s) {vs:List Value} {xs:List af} {sz cap:Nat} {e:TypeId} {cur:Array Value} (aF:bG w p vs xs)
    (ar:∀ v∈vs,v.cells.size=sz) (ow:cur.size=cap*sz) (vn:cur.toList.take (xs.length*sz)=flat vs) (kl:xs.length≤cap) (hm:xs.length≤9223372036854775807) :
    ∃ bj,s w.heap.size=none∧dc w p (w.alloc (.cells cur e)) bj∧Kept s (s.set w.heap.size (.row e sz xs.length)) w p (w.alloc (.cells cur e)) bj ∧
      dm (w.alloc (.cells cur e)) bj (s.set w.heap.size (.row e sz xs.length))∧Rel (w.alloc (.cells cur e)) bj (.slice (some ⟨w.heap.size,0,none⟩) xs.length cap) (.aA sz xs (.own w.heap.size)):=by
  have az:s w.heap.size=none:=by
    cases h:s w.heap.size with
    | none=>rfl
    | some o'=>exact absurd (cc.obj _ _ h).lt ag
  let bj:bR:=fun b o=>p b o∨(b=w.heap.size∧o<xs.length*sz)
  have ox:(w.alloc (.cells cur e)).heap[w.heap.size]? = some (.cells cur e):=tF w _;have hold:∀ b,b<w.heap.size→(w.alloc (.cells cur e)).heap[b]? = w.heap[b]? := fun b aq=>l3 w _ b aq
  have hle:dc w p (w.alloc (.cells cur e)) bj:=dc.of_heap C C C a' (fun _ _ h => .inl h) cc.lt hold;have hlen:=vm ar;have hmul:xs.length*sz≤cap*sz:=Nat.mul_le_mul_right _ kl;refine ⟨bj,az,hle,⟨fun b aq _=>hold b aq,fun b aq ar=>by rw [ao.fx _ _ ag];exact ar,fun b o aq _ aD=>by rcases aD with aD|⟨rfl,_⟩;exact aD;omega⟩,?_,?_⟩
  · have aw:dm (w.alloc (.cells cur e)) bj s:=cc.grow hle hold (fun b o aq aD=>by rcases aD with aD|⟨rfl,_⟩;exact aD;omega) (fun b o aD=>by
      rcases aD with aD|⟨rfl,_⟩
      · have:=cc.lt b o aD;simp;omega
      · simp)
    refine ⟨fun b o aq=>?_,aw.lt⟩;by_cases e':b=w.heap.size
    · subst e'
      rw [ao.gk] at aq;cases aq;refine ⟨cur,ox,by omega,⟨cap,ow⟩,fun o=>⟨fun aD=>?_,fun ah => .inr ⟨rfl,ah⟩⟩⟩;rcases aD with aD|⟨_,ah⟩
      · exact absurd (cc.lt _ _ aD) ag
      · exact ah
    · rw [ao.fx _ _ e'] at aq;exact aw.obj b o aq
  · refine .aA _ 0 _ _ _ vs _ _ a' rfl ?_ (aF.mono hle) ar hm kl (fun h=>by cases h) (fun b aq=>?_)
    · intro i v av
      have aQ:i<xs.length*sz:=by
        have:=(List.getElem?_eq_some_iff.1 av).1;rw [hlen,aF.length] at this;exact this
      refine ⟨.inr ⟨rfl,by omega⟩,?_⟩;rw [zero_add,jB ox];rw [← vn,getElem?_take,if_pos aQ] at av;simpa using av
    · cases aq
      exact ⟨rfl,rfl,e,by simp only [World.kG,ox,ow]⟩
theorem La {z:Value} (h:z.cells = #[z]) (n:Nat):(madeCells z.cells n).toList=List.replicate n z:=by
 refine List.ext_getElem? fun i=>?_
 unfold madeCells;rw [h];simp only [Array.toList_map,Array.toList_range,getElem?_map,List.getElem?_replicate];by_cases aQ:i<n
 ·rw [List.getElem?_range aQ,if_pos aQ]
  simp [Nat.mod_one]
 ·rw [List.getElem?_eq_none cG,if_neg aQ];rfl
section
variable {P:Program} {Γ:cw} {N:Nat} {ops:Array Oper} {Q:b8→Env→ao→Prop} {env:Env} {s:ao} {l:List Oper} {o:Oper} {d:Nat} {L R:a8}
theorem Lb (aP:bQ P Γ) {t e:TypeId} {it aG:bM} (aM:Γ.get? t=some it) (br:it.bF = .aA e) (bI:Γ.get? e=some aG) (na pE:IntKind) (n c:Nat) (s5:n≤c) (aq:c*aG.bytes≤140737488355328) (ei:c≤9223372036854775807) (w:World) :
  (Instr.makeSlice t (.int na (n:Int)) (.int pE (c:Int))).run P w = .ok (.slice (some ⟨w.heap.size,0,none⟩) n c) (w.alloc (.cells (madeCells aG.zero.cells (c*aG.size)) e)):=by
 obtain ⟨info,d,g1,g2,g3,-⟩:=aP.parts aM;obtain ⟨jL,kj,cD,dh,fa,eD,jM,jl⟩:=aP.parts bI;have ax:d = .slice e:=by rw [br] at g3;cases d<;>simp [ev] at g3;rw [g3]
 subst ax;have dI:(jL.bytes:Int)*(c:Int)≤281474976710656:=by
  rw [jM];have:((aG.bytes*c:Nat):Int)≤281474976710656:=by rw [Nat.mul_comm];omega
  rwa [Int.natCast_mul] at this
 have:=run_make (P:=P) w t e jL aG.zero g2 cD jl na pE (n:Int) (c:Int) ag ag dI ag;rw [Int.toNat_natCast,Int.toNat_natCast,eD] at this;exact this
theorem aZ.ui (aP:bQ P Γ) (I:Ok s L) {t e:TypeId} {x y:Operand} {it aG:bM} {na pE:IntKind} {z:af} (n:Nat) (ah:o.op = .makeSlice t x y) (aM:Γ.get? t=some it) (br:it.bF = .aA e) (bI:Γ.get? e=some aG) (U:aG.size=1)
  (uj:aG.zero.oneCell'=true) (bO:hx aG.zero=some z) (ab:aJ env x=some (.int na (n:Int))) (ay:aJ env y=some (.int pE (n:Int))) (aq:n*aG.bytes≤140737488355328) (ei:n≤9223372036854775807) {X:af→ao→Prop} :
  aZ P N o env (aT s L) (fun r aj=>∃ b,r=eo b n n∧aj=aT s ((.own b,.box e (List.replicate n z))::L)∧Ok s ((.own b,.box e (List.replicate n z))::L)) X:=by
 refine aZ.ki i' fun ro B a w p aI=>?_
 have ga:=aI.aJ ab;have fh:=aI.aJ ay;generalize ew:a.eval x=dP at ga;generalize fb:a.eval y=fU at fh;cases ga;cases fh;have cO:=Lb aP aM br bI na pE n n (Nat.le_refl _) aq ei w;have tK:=zN uj;have Ai:=La tK (n*aG.size);rw [U,mul_one] at cO Ai
 obtain ⟨ar,hle,aE,kM⟩:=rb aI.wf (.cells (madeCells aG.zero.cells n) e (0,0)) (.box e (List.replicate n z)) (fun w' iL av fw=>⟨_,iL,by
  rw [Ai];exact bG.replicate (p' bO) n,fun o aD=>absurd (aI.wf.lt _ _ aD) ag⟩)
 refine ⟨.slice (some ⟨w.heap.size,0,none⟩) n n,_,_,p,_,?_,hle,aE,kM,⟨w.heap.size,rfl,rfl,ar,I⟩,.hv _⟩;unfold execOp;rw [ah];simp only [ew,fb];exact gR cO
theorem aa.ui (aP:bQ P Γ) (I:Ok s L) {t e:TypeId} {x y:Operand} {it aG:bM} {na pE:IntKind} {z:af} (n:Nat) (aw:guardOf ops env o=some true) (ax:o.dst=some d) (aU:Nat.blt d N=true) (ah:o.op = .makeSlice t x y) (aM:Γ.get? t=some it) (br:it.bF = .aA e) (bI:Γ.get? e=some aG) (U:aG.size=1)
  (uj:aG.zero.oneCell'=true) (bO:hx aG.zero=some z) (ab:aJ env x=some (.int na (n:Int))) (ay:aJ env y=some (.int pE (n:Int))) (aq:n*aG.bytes≤140737488355328) (ei:n≤9223372036854775807)
  (h:∀ b,Ok s ((.own b,.box e (List.replicate n z))::L)→aa P N ops l Q ((d,eo b n n)::env) (aT s ((.own b,.box e (List.replicate n z))::L))):aa P N ops (o::l) Q env (aT s L):=by
 refine aa.op aw ax aU (aZ.ui aP I n ah aM br bI U uj bO ab ay aq ei (X:=fun _ _=>False)) ?_ (fun _ _ h=>h.elim);rintro r aj ⟨b,rfl,rfl,ad⟩;exact h b ad
theorem aZ.Gq (aP:bQ P Γ) (I:Ok s L) {t e:TypeId} {x y:Operand} {it aG:bM} {na pE:IntKind} {z:af} (n c:Nat) (ah:o.op = .makeSlice t x y) (aM:Γ.get? t=some it) (br:it.bF = .aA e) (bI:Γ.get? e=some aG) (U:aG.size=1)
  (uj:aG.zero.oneCell'=true) (bO:hx aG.zero=some z) (ab:aJ env x=some (.int na (n:Int))) (ay:aJ env y=some (.int pE (c:Int))) (s5:n≤c) (aq:c*aG.bytes≤140737488355328) (ei:c≤9223372036854775807) {X:af→ao→Prop} :
  aZ P N o env (aT s L) (fun r aj=>∃ b,r = .aA 1 (List.replicate n z) (.own b)∧aj=aT s ((.own b,.row e 1 n)::L)∧Ok s ((.own b,.row e 1 n)::L)) X:=by
 refine aZ.ki i' fun ro B a w p aI=>?_
 have ga:=aI.aJ ab;have fh:=aI.aJ ay;generalize ew:a.eval x=dP at ga;generalize fb:a.eval y=fU at fh;cases ga;cases fh;have cO:=Lb aP aM br bI na pE n c s5 aq ei w;have tK:=zN uj;have Ai:=La tK (c*aG.size);rw [U,mul_one] at cO Ai
 obtain ⟨bj,ef,di,dL,mw,sE⟩:=Tw (e:=e) (sz:=1) (cap:=c) (cur:=madeCells aG.zero.cells c) aI.wf (bG.replicate (p' (w:=w) (p:=p) bO) n) (fun v av=>by
  obtain ⟨_,rfl⟩:=List.mem_replicate.1 av
  rw [tK];rfl) (by rw [size_madeCells,mul_one]) (by
  rw [Ai,length_replicate,mul_one,List.take_replicate,sQ (fun v av=>by obtain ⟨_,rfl⟩:=List.mem_replicate.1 av;exact uj),min_eq_left s5]) (by rw [length_replicate];exact s5) t'
 rw [length_replicate] at dL mw sE;refine ⟨.slice (some ⟨w.heap.size,0,none⟩) n c,_,_,bj,_,?_,di,dL,mw,⟨w.heap.size,rfl,rfl,ef,I⟩,sE⟩;unfold execOp;rw [ah];simp only [ew,fb];exact gR cO
theorem aa.Gq (aP:bQ P Γ) (I:Ok s L) {t e:TypeId} {x y:Operand} {it aG:bM} {na pE:IntKind} {z:af} (n c:Nat) (aw:guardOf ops env o=some true) (ax:o.dst=some d) (aU:Nat.blt d N=true) (ah:o.op = .makeSlice t x y) (aM:Γ.get? t=some it) (br:it.bF = .aA e) (bI:Γ.get? e=some aG) (U:aG.size=1)
  (uj:aG.zero.oneCell'=true) (bO:hx aG.zero=some z) (ab:aJ env x=some (.int na (n:Int))) (ay:aJ env y=some (.int pE (c:Int))) (s5:n≤c) (aq:c*aG.bytes≤140737488355328) (ei:c≤9223372036854775807)
  (h:∀ b,Ok s ((.own b,.row e 1 n)::L)→aa P N ops l Q ((d,.aA 1 (List.replicate n z) (.own b))::env) (aT s ((.own b,.row e 1 n)::L))):aa P N ops (o::l) Q env (aT s L):=by
 refine aa.op aw ax aU (aZ.Gq aP I n c ah aM br bI U uj bO ab ay s5 aq ei (X:=fun _ _=>False)) ?_ (fun _ _ h=>h.elim);rintro r aj ⟨b,rfl,rfl,ad⟩;exact h b ad
end
def Lc (P:Program) {α:Type} (dW a2:α→af) (nS:α→Prop) (l:Nat) (Go:List α→a8→Prop) (fA:a8→Prop) (fI:af→a8→Prop):Prop:=
 ∀ x rem K,Go (x::rem) K→dp P (lE l) [dW x,a2 x] K (fun o aO=>(o = .ret (.bool true)∧nS x∧Go rem aO)∨(o = .ret (.bool false)∧fA aO)∨∃ v,o = .panic v∧fI v aO)
def Gr (P:Program) (f:FuncId) (first cap:List af) (mI:a8) {α:Type} (dW a2:α→af) (nS:α→Prop) (xs:List α):Prop:=
 ∀ (l:Nat) (Go:List α→a8→Prop) (fA:a8→Prop) (fI:af→a8→Prop),Lc P dW a2 nS l Go fA fI→∀ K,Go xs K →
  bE P f (first++([lE l]++cap)) (mI++K) (fun o aO=>(o = .ret (.cp [])∧(Go [] aO∨fA aO))∨∃ v,o = .panic v∧fI v aO)
section
variable {P:Program} {N:Nat} {Q:b8→Env→ao→Prop} {env:Env} {s:ao} {L R:a8}
theorem ae.Ld {α:Type} {dW a2:α→af} {nS:α→Prop} {xs:List α} {t u:Tmp} {g:Operand} {ha body:Code} {f:FuncId} {first cap:List af} {mI:a8} (I:Ok s L) (aw:aJ env g=some (.func f first cap)) (aU:t<N) (eL:u<N)
  (nP:Gr P f first cap mI dW a2 nS xs) (ar:aH L mI R) (acg:List α→a8→Prop) (J:Code→a8→Prop) (sU:af→a8→Prop) (bt:acg xs R)
  (sj:∀ s x rem K,acg (x::rem) K→Ok s K→ae P N ha (b8.andThen (ae P N body (Cq (At s (fun K=>nS x∧acg rem K)) (fun j=>At s (J j)) (fun v=>At s (sU v)))) (fun _ _ _=>False)) ((u,a2 x)::(t,dW x)::env) (aT s K))
  (az:∀ K,acg [] K→Ok s K→Q .normal env (aT s K))
  (aK:∀ j K,J j K→Ok s K→ae P N j Q env (aT s K))
  (ab:∀ v K,sU v K→Ok s K→Q (.panic v) env (aT s K)):ae P N (.rangeFunc g #[t,u] ha body) Q env (aT s L):=by
 refine ae.JQ aw (by intro bH cV;simp at cV;rcases cV with rfl|rfl;exact aU;exact eL) fun l r aB FN=>?_
 have FO:Ok s ((.own l,.loop r env)::L):=⟨aB,I⟩;have oG:Lc P dW a2 nS l (fun rem K=>∃ aO,K=(.own l,.loop r env)::aO∧acg rem aO) (fun K=>∃ j aO,K=(.own l,.loop (qo r j) env)::aO∧J j aO) (fun v K=>∃ aO,K=(.own l,.loop (busy r) env)::aO∧sU v aO):=by
  rintro x rem _ ⟨K,rfl,an⟩ aj zQ;refine (FN [dW x,a2 x] _ (At aj (fun K=>nS x∧acg rem K)) (fun j=>At aj (J j)) (fun v=>At aj (sU v)) (ao.gk _ _ _) C ?_).less ?_
  ·have:=ao.zh (aT aj K) l (.loop r env) zQ.1
   show ae P N ha _ _ (((aT aj K).set l (.loop r env)).del l);rw [this];exact sj aj x rem K an zQ.2
  ·have key:∀ {L K R:a8} {o:dC},aT aj L l=none→Ok aj L→aH L K R→ao.Sub (aT aj ((.own l,o)::K)) ((aT aj L).set l o)∧Ok aj ((.own l,o)::K):=by
    intro L K R o U ad al;exact (aH.cons bp.here al).sub (L:=(.own l,o)::L) ⟨U,ad⟩
   rintro o eG (⟨rfl,dH,U,rfl,L,aO,R,rfl,ad,bd,al⟩|⟨rfl,j,dH,U,rfl,L,aO,R,rfl,ad,bd,al⟩|⟨v,dH,rfl,U,rfl,L,aO,R,rfl,ad,bd,al⟩)
   ·obtain ⟨cD,dh⟩:=key U ad bd (o := .loop r env)
    exact ⟨_,cD,(.own l,.loop r env)::aO,rfl,dh,.inl ⟨rfl,al.1,aO,rfl,al.2⟩⟩
   ·obtain ⟨cD,dh⟩:=key U ad bd (o := .loop (qo r j) env)
    exact ⟨_,cD,(.own l,.loop (qo r j) env)::aO,rfl,dh,.inr (.inl ⟨rfl,j,aO,rfl,al⟩)⟩
   ·obtain ⟨cD,dh⟩:=key U ad bd (o := .loop (busy r) env)
    exact ⟨_,cD,(.own l,.loop (busy r) env)::aO,rfl,dh,.inr (.inr ⟨v,rfl,aO,rfl,al⟩)⟩
 have cZ:=(nP l _ _ _ oG _ ⟨R,rfl,bt⟩).at FO ((ar.there (e:=(.own l,.loop r env))).app (aH.dq _));refine cZ.mono ?_;rintro o eG ⟨M,rfl,iN,aO,rfl,h⟩;rw [append_nil] at iN ⊢;rcases h with ⟨rfl,⟨mc,rfl,h⟩|⟨j,mc,rfl,h⟩⟩|⟨v,rfl,mc,rfl,h⟩
 ·exact .inl ⟨aT s mc,iN.1,rfl,az mc h iN.2⟩
 ·exact .inr ⟨j,aT s mc,iN.1,rfl,aK j mc h iN.2⟩
 ·exact ⟨aT s mc,_,iN.1,rfl,ab v mc h iN.2⟩
end
section
variable {J:ao→Prop} {P:Program} {Γ:cw} {N:Nat} {l:List Oper} {i:Nat} {rest:List Oper} {Q:b8→Env→ao→Prop} {env:Env} {s:ao} {o:Oper} {d:Nat}
theorem aN.shl {t yt:TypeId} {x y:Operand} {k k':IntKind} {a b:Int} (r:Int) (aw:c7 l env o) (ax:o.dst=some d) (aU:Nat.blt d N=true) (ah:o.op = .binOp .shl t x y yt) (ab:aJ (bZ l env o) x=some (.int k a)) (ay:aJ (bZ l env o) y=some (.int k' b)) (aq:0≤b) (aF:k.wrap (a*2^(min b.toNat k.bits))=r)
  (h:aN J P Γ N l (i+1) rest Q ((d,.int k r)::env) s):aN J P Γ N l i (o::rest) Q env s:=
 aN.calm aw ax aU (fun _ _=>aZ.shl ah ab ay aq aF) h
theorem aN.shr {t yt:TypeId} {x y:Operand} {k k':IntKind} {a b:Int} (r:Int) (aw:c7 l env o) (ax:o.dst=some d) (aU:Nat.blt d N=true) (ah:o.op = .binOp .shr t x y yt) (ab:aJ (bZ l env o) x=some (.int k a)) (ay:aJ (bZ l env o) y=some (.int k' b)) (aq:0≤b) (aF:a.fdiv (2^(min b.toNat k.bits))=r)
  (h:aN J P Γ N l (i+1) rest Q ((d,.int k r)::env) s):aN J P Γ N l i (o::rest) Q env s:=
 aN.calm aw ax aU (fun _ _=>aZ.shr ah ab ay aq aF) h
theorem aN.bits {op:BinOp} {t yt:TypeId} {x y:Operand} {k:IntKind} {a b:Int} (r:Int) (aw:c7 l env o) (ax:o.dst=some d) (aU:Nat.blt d N=true) (ah:o.op = .binOp op t x y yt) (ab:aJ (bZ l env o) x=some (.int k a)) (ay:aJ (bZ l env o) y=some (.int k b)) (aF:bitsOf op k a b=some r)
  (h:aN J P Γ N l (i+1) rest Q ((d,.int k r)::env) s):aN J P Γ N l i (o::rest) Q env s:=
 aN.calm aw ax aU (fun _ _=>aZ.bits ah ab ay aF) h
end
section
variable {J:ao→Prop} {P:Program} {Γ:cw} {N:Nat} {l:List Oper} {Q:b8→Env→ao→Prop} {env:Env} {s:ao} {o:Oper} {d m:Nat} {L R:a8}
theorem bm.mE (i:Nat) (aP:bQ P Γ) (I:Ok s L) {t dQ eV:TypeId} {x y z:Operand} {it gG:bM} {b:Nat} {es du:List (af×af)} {k v:af} (aF:eE l.toArray m (idxs 0 l)=[i]) (ah:l.toArray[i]? = some o) (ax:o.dst=none)
  (aw:c7 l env o) (b2:o.op = .mapUpdate t x y z∨o.op = .insert t x y z) (aM:Γ.get? t=some it) (br:it.bF = .map dQ eV) (jk:Γ.get? dQ=some gG) (ab:aJ (bZ l env o) x=some (.map b)) (ay:aJ (bZ l env o) y=some k) (bO:aJ (bZ l env o) z=some v)
  (ar:bp L (.own b) (.map es) R) (a6:j3 gG.bF k=true) (aD:lA es k v=some du)
  (aK:Ok s ((.own b,.map du)::R)→J (aT s ((.own b,.map du)::R))∨ko l.toArray i=true)
  (h:Ok s ((.own b,.map du)::R)→bm J P Γ N l.toArray Q (bV (m|||2^i)) env (aT s ((.own b,.map du)::R))):bm J P Γ N l.toArray Q (bV m) env (aT s L):=
 bm.xG aF ah ax aw (aZ.mE aP I b2 aM br jk ab ay bO ar a6 aD (X:=fun _ _=>False)) (fun x aj ⟨U,ad⟩=>by subst U;exact aK ad) (fun x aj ⟨U,ad⟩=>by subst U;exact h ad) (fun _ _ h=>h.elim)
end
section
variable {P:Program} {b:Frame} {a:Act} {k:List Item} {cs:List Frame} {w:World}
theorem Aj {c:Code}:step P (lone (b.atR a (.code (.scope c)::k)) cs w) = .next (lone (b.atR a (.code c :: .inScope c::k)) cs w):=
 step_lone_go (by simp [stepG,stepG.exec,Frame.atR])
theorem Tx {c:Code}:step P (lone (b.atR a (.inScope c::k)) cs w) = .next (lone (b.atR a k) cs w):=
 step_lone_go (by simp [stepG,stepG.exec,Frame.atR])
theorem Ty {Q:gU→Act→World→Prop} {c:Code} (h:jK P b c Q a w):jK P b (.scope c) Q a w:=by
 intro k cs;obtain ⟨e,iJ,w₁,bq,fT⟩:=h (.inScope c::k) cs;cases e with
 | normal=>exact ⟨.normal,iJ,w₁,bq,.head Aj (Steps.trans fT (.one Tx))⟩
 | exit id=>
  refine ⟨.exit id,iJ,w₁,bq,fun k' aE => .head Aj (fT.1 k' (by simpa [exitTo] using aE)),fun aE=>?_⟩;obtain ⟨k₁,U,ad⟩:=fT.2 (by simpa [exitTo] using aE);exact ⟨k₁,U,.head Aj ad⟩
 | ret=>obtain ⟨k₁,ar⟩:=fT;exact ⟨.ret,iJ,w₁,bq,k₁,.head Aj ar⟩
 | panic dB=>obtain ⟨k₁,ar⟩:=fT;exact ⟨.panic dB,iJ,w₁,bq,k₁,.head Aj ar⟩
theorem Tz {Q:gU→Act→World→Prop} {l:Nat} (h:Q .normal a w):jK P b (.label l) Q a w:=
 fun _ _=>⟨.normal,a,w,h,.one stepR_label⟩
end
section
variable {P:Program} {N:Nat} {Q:b8→Env→ao→Prop} {env:Env} {s:ao}
theorem ae.scope {c:Code} (h:ae P N c Q env s):ae P N (.scope c) Q env s:=fun b B a w p eU aI=>Ty (h b B a w p eU aI)
theorem ae.label {l:Nat} (h:Q .normal env s):ae P N (.label l) Q env s:=fun _ _ _ _ _ _ aI=>Tz (.here .normal h aI)
end
end Go.cU
namespace Go.Proofs.YtnafpeohfbglmaaGreat
open Go.cU Go.eb
def fO (g:List b0):af := .aA 4 (g.map eW) .bb
def mh:Option Int→List Int→Bool
 | _,[]=>true
 | none,x::r=>decide (x≥0)&&mh (some x) r
 | some p,x::r=>decide (x≥0)&&(decide (p<x)&&mh (some x) r)
theorem Le:∀ (r:List Int) (x:Int),qw (x::r)=(decide (x≥0)&&mh (some x) r)
  | [],x=>by rw [qw,mh,Bool.and_true]
  | y::r,x=>by
    rw [qw,mh,Le r y];cases decide (x<y)<;>cases decide (y≥0)<;>simp
theorem Lf (l:List Int):qw l=mh none l:=by
 cases l with
 | nil=>rfl
 | cons x r=>rw [Le,mh]
theorem kc {len i:Nat} {x:b0} (h:x.atom ≠ -1):ie len i x=true↔0≤x.atom∧x.atom<7∧x.no>i∧x.no<len∧x.yes>i∧x.yes<len∧x.ms.length=0:=by
 unfold ie;rw [if_neg h];simp
theorem np {len i:Nat} {x:b0} (h:x.atom = -1):ie len i x=true↔x.no=0∧x.yes=0∧x.ms.length≤16∧qw x.ms=true:=by
 unfold ie;rw [if_pos h];simp
theorem C' (g:List b0) (aw:g.length<bz):aR Tryz.prog 68 [fO g] (.bool (gI g)):=by
 have aq:=bA;refine aR.bh ai Tryz.func68 C C fun s I=>?_
 unfold fO;have dz:gI g=gI g:=rfl
 conv at dz=>rhs;unfold gI
 refine dv ?_;by_cases g1:g.length=0
 ·refine aa.de 10 C (by simp [g1]) ?_
  rw [show decide (1≤g.length)=false by simp [g1],Bool.false_and] at dz;rw [dz];refine eh ?_;exact bl I
 refine aa.cY 10 C (by simp;intro e;exact g1 (by rw [e];rfl)) ?_;rw [show decide (1≤g.length)=true by simp;omega,Bool.true_and] at dz;refine fH ?_;refine ae.cond C (fun g2=>?_) (fun g2=>?_)
 ·rw [show decide (g.length≤300)=false by simp at g2 ⊢;omega,Bool.false_and] at dz
  rw [dz];refine gv ?_;exact bl I
 have g2:g.length≤300:=by simp at g2;omega
 rw [decide_eq_true g2,Bool.true_and] at dz;rw [dz];refine jb ?_;refine ae.b4 [0,15,16] C I (σ:=Nat) (fun j=>[(17,.int .i64 (j:Int))]) (fun _=>[]) (fun j=>j≤g.length∧oH g.length 0 g=oH g.length j (g.drop j)) (fun j=>g.length-j) 0 ⟨zero_le _,rfl⟩ (cq C) aX ?_;rintro j ⟨aK,an⟩ I
 try simp only at aK an I ⊢
 refine b7 ?_;refine ae.cond C (fun au=>?_) (fun aV=>?_);rotate_left
 ·have aV:j=g.length:=by simp at aV;omega
  rw [ep ag,oH] at an;rw [an];refine dN ?_;exact bl I
 have au:j<g.length:=by simpa using au
 obtain ⟨x,ab,bJ⟩:=b1 (f:=eW) au;rw [drop_cons ab,oH] at an;unfold eW gZ bf at bJ
 repeat (first|(refine CE I ?_;clear I;intro I)|refine aa.dY ai I rfl rfl rfl rfl rfl rfl rfl (fun cJ I=>?_))
 refine ae.cond C (fun a7=>?_) (fun a7=>?_)
 ·have a7:x.atom ≠ -1:=by simpa using a7
  refine cI I ?_;intro I;by_cases U:x.atom<0
  ·refine aa.de 28 C (decide_eq_true U) ?_
   refine e1 ?_;rw [an,show ie g.length j x=false from eq_false_iff.2 (fun h=>by have:=(kc a7).1 h;omega),Bool.false_and];skip;exact bl I
  refine aa.cY 28 C (decide_eq_false U) ?_;refine cI I ?_;intro I;by_cases ad:x.atom≥7
  ·refine aa.de 33 C (decide_eq_true ad) ?_
   refine e1 ?_;rw [an,show ie g.length j x=false from eq_false_iff.2 (fun h=>by have:=(kc a7).1 h;omega),Bool.false_and];skip;exact bl I
  refine aa.cY 33 C (decide_eq_false ad) ?_;refine cI I ?_;intro I;by_cases al:(if x.yes<x.no then x.yes else x.no)≤(j:Int)
  ·refine aa.de 42 C (decide_eq_true al) ?_
   refine e1 ?_;rw [an,show ie g.length j x=false from eq_false_iff.2 (fun h=>by have:=(kc a7).1 h;omega),Bool.false_and];skip;exact bl I
  refine aa.cY 42 C (decide_eq_false al) ?_;refine cI I ?_;intro I;by_cases bd:(if x.yes>x.no then x.yes else x.no)≥(g.length:Int)
  ·refine aa.de 52 C cG ?_
   refine e1 ?_;rw [an,show ie g.length j x=false from eq_false_iff.2 (fun h=>by have:=(kc a7).1 h;omega),Bool.false_and];skip;exact bl I
  refine aa.cY 52 C cG ?_;refine cI I ?_;intro I;refine ae.cond C (fun bD=>?_) (fun bD=>?_)
  ·have bD:x.ms.length≠0:=by simp at bD;omega
   rw [an,show ie g.length j x=false from eq_false_iff.2 (fun h=>by have:=(kc a7).1 h;omega),Bool.false_and];refine ja ?_;exact bl I
  have bD:x.ms.length=0:=by simp at bD;rw [bD];rfl
  rw [(kc a7).2 ag,Bool.true_and] at an;refine bC ?_;exact bn.mk (j+1) I ⟨au,an⟩ ca aX sO
 have a7:x.atom = -1:=by simpa using a7
 refine cI I ?_;intro I;by_cases U:x.no=0;rotate_left
 ·refine aa.de 61 C sP ?_
  refine e1 ?_;rw [an,show ie g.length j x=false from eq_false_iff.2 (fun h=>by have:=(np a7).1 h;omega),Bool.false_and];skip;exact bl I
 refine aa.cY 61 C sP ?_;refine cI I ?_;intro I;by_cases ad:x.yes=0;rotate_left
 ·refine aa.de 66 C p2 ?_
  refine e1 ?_;rw [an,show ie g.length j x=false from eq_false_iff.2 (fun h=>by have:=(np a7).1 h;omega),Bool.false_and];skip;exact bl I
 refine aa.cY 66 C p2 ?_;refine cI I ?_;intro I;refine ae.cond C (fun al=>?_) (fun al=>?_)
 ·rw [an,show ie g.length j x=false from eq_false_iff.2 (fun h=>by have:=(np a7).1 h;simp at al;omega),Bool.false_and]
  refine ja ?_;exact bl I
 have al:x.ms.length≤16:=by simp at al;omega
 refine cI I ?_;intro I;refine ae.b4 [0,15,16,17,4,73,74] C I (σ:=Nat) (fun k=>[(75,.int .i64 (k:Int))]) (fun _=>[(.own cJ,.box 69 (gZ x))]) (fun k=>k≤x.ms.length∧qw x.ms=mh (if k=0 then none else x.ms[k-1]?) (x.ms.drop k)) (fun k=>x.ms.length-k) 0 ⟨zero_le _,Lf _⟩ (cq C) (by simp only [gZ];exact aX) ?_;rintro k ⟨aE,bg⟩ I
 try simp only [gZ,bf] at aE bg I ⊢
 refine b7 ?_;refine ae.cond C (fun cz=>?_) (fun dr=>?_);rotate_left
 ·have dr:k=x.ms.length:=by simp at dr;omega
  rw [ep ag,mh] at bg;rw [(np a7).2 ⟨U,ad,al,bg⟩,Bool.true_and] at an;refine bC ?_;exact bn.mk (j+1) I ⟨au,an⟩ ca aX sO
 have cz:k<x.ms.length:=by simpa using cz
 obtain ⟨y,ay,da⟩:=b1 (f:=ba) cz;rw [drop_cons ay] at bg;unfold ba at da;refine dF ?_;by_cases bd:y<0
 ·refine aa.de 82 C (decide_eq_true bd) ?_
  have bg:qw x.ms=false:=by
   rw [bg];cases (if k=0 then none else x.ms[k-1]?)<;>rw [mh,show decide (y≥0)=false by simp;omega,Bool.false_and]
  rw [an,show ie g.length j x=false from eq_false_iff.2 (fun h=>by have:=((np a7).1 h).2.2.2;rw [bg] at this;cases this),Bool.false_and];refine e1 ?_;exact bl I
 refine aa.cY 82 C (decide_eq_false bd) ?_;have m2:decide (y≥0)=true:=by simp;omega
 cases k with
 | zero=>
  rw [if_pos C,mh,m2,Bool.true_and] at bg;refine bC ?_;exact bn.mk 1 I ⟨cz,by rw [if_neg ag];simpa [ay] using bg⟩ (by repeat (first|exact trivial|refine ⟨⟨_,rfl,aL⟩,?_⟩|refine ⟨⟨_,rfl,aS.of_eq CI⟩,?_⟩)) aX (by show x.ms.length-1<x.ms.length-0;omega)
 | succ k=>
 rw [if_neg ag,Nat.add_sub_cancel] at bg;obtain ⟨z,bO,s6⟩:=b1 (f:=ba) (show k<x.ms.length by omega);rw [bO,mh,m2,Bool.true_and] at bg;unfold ba at s6;refine dy ?_;refine aa.de 85 C a' ?_;refine cI I ?_;intro I;refine aa.idx ai k C C C C C C C C C C (by rw [ek ag ag];push_cast;omega) s6 C ?_;refine fH ?_;refine ae.cond C (fun bD=>?_) (fun bD=>?_)
 ·rw [show decide (z<y)=false by simp at bD ⊢;omega,Bool.false_and] at bg
  rw [an,show ie g.length j x=false from eq_false_iff.2 (fun h=>by have:=((np a7).1 h).2.2.2;rw [bg] at this;cases this),Bool.false_and];refine ja ?_;exact bl I
 rw [show decide (z<y)=true by simp at bD ⊢;omega,Bool.true_and] at bg;refine gd ?_;exact bn.mk (k+2) I ⟨cz,by rw [if_neg ag];simpa [ay] using bg⟩ (by repeat (first|exact trivial|refine ⟨⟨_,rfl,aL⟩,?_⟩|refine ⟨⟨_,rfl,aS.of_eq zL⟩,?_⟩)) aX (by show x.ms.length-(k+2)<x.ms.length-(k+1);omega)
end Go.Proofs.YtnafpeohfbglmaaGreat
namespace Go.cU
section
variable {P:Program} {Γ:cw} {N:Nat} {ops:Array Oper} {Q:b8→Env→ao→Prop} {env:Env} {s:ao} {l:List Oper} {o:Oper} {d:Nat} {L R:a8}
theorem Lg (aP:bQ P Γ) {w:World} {p:bR} {S:ao} (cc:dm w p S) {t bH e ty:TypeId} {it ct aG:bM} {bU:Nat} {olds:List Value} {xs ys:List af} {dj:bL} {base:Option Addr} {n cap:Nat} {qt:Value}
  (aM:Γ.get? t=some it) (br:it.bF = .aA e) (cV:Γ.get? bH=some ct) (dn:∀ k,ct.bF ≠ .int k) (bI:Γ.get? e=some aG) (U:aG.size=1) (dO:Nat.beq aG.zero.cells.size aG.size=true)
  (aF:bG w p olds xs) (az:n=xs.length) (pd:(Builtin.firstCells 1 n (.slice base n cap)).run P w.drew = .ok olds.toArray w.drew) (ay:Rel w p qt (.aA bU ys dj)) (c8:bU=1) (dJ:ys.all e7=true)
  (au:cap<n+ys.length) (aq:(n+ys.length)*aG.bytes≤140737488355328) (ei:n+ys.length≤9223372036854775807) :
  ∃ aW cd cs' w',(Builtin.append_ #[t,bH] ty #[.slice base n cap,qt]).run P w = .ok (.slice (some ⟨aW,0,none⟩) (n+ys.length) cd) w'∧S aW=none∧dc w p w' p∧Kept S (S.set aW (.box e cs')) w p w' p∧dm w' p (S.set aW (.box e cs')) ∧
   cs'.length=cd∧n+ys.length≤cd∧cs'.take (n+ys.length)=xs++ys:=by
 obtain ⟨info,d,g1,g2,g3,-⟩:=aP.parts aM;obtain ⟨mq,c3,ef,di,dL,-⟩:=aP.parts cV;obtain ⟨jL,kj,cD,dh,fa,eD,jM,jl⟩:=aP.parts bI;have ax:d = .slice e:=by rw [br] at g3;cases d<;>simp [ev] at g3;rw [g3]
 subst ax;have cl:∀ k,c3 ≠ .int k:=fun k e'=>by subst e';exact dn k dL.symm
 obtain ⟨us,ic,pe,jN,j6,sy,sA,sB⟩:=qd ay (.inr c8);have my:=ic.length;subst c8;have sR:flat us=us:=sQ (qb ic dJ);have fy:=growslice_fits (need:=n+ys.length) (old:=cap) (bytes:=aG.bytes) au aq;have cO:=zm (ty:=ty) w g2 di cl cD jl (base:=base) (sLen:=n) (sCap:=cap) (m:=ys.length) (olds:=olds) (news:=us) (jN P)
  (by rw [eD,U];exact pd) (by rw [eD,U];(conv=>rhs;rw [← sR]);exact j6 P w.drew (fun _ _ _=>rfl)) au ag (by rw [jM];exact fy)
 have m7:n+ys.length≤grownCap w (n+ys.length) cap e:=by simp [grownCap,Question.cut]
 have gn:olds.length=n:=by rw [aF.length,az]
 have ot:=eq_of_beq_eq_true dO;generalize sx:(Builtin.zeroCells aG.zero.cells (grownCap w (n+ys.length) cap e-(n+ys.length))).toList=aY at cO;have m8:aY.length=grownCap w (n+ys.length) cap e-(n+ys.length):=by
  rw [← sx,length_toList];simp [Builtin.zeroCells,ot,U]
 generalize grownCap w (n+ys.length) cap e=G at cO m7 m8;have vT:=xr cc
 obtain ⟨ar,hle,aE,kM⟩:=rb vT (.cells (olds++us++aY).toArray e (0,0)) (.box e (xs++ys++aY.map fun _ => .any)) (fun w' iL av fw=>⟨_,iL,by
  refine bG.append (bG.append (fw _ _ (show bG w.drew p olds xs from aF.mono kJ)) (fw _ _ (ic.mono kJ))) (bG.zM aY),fun o aD=>absurd (cc.lt _ _ aD) (by show ¬ w.heap.size<w.heap.size;omega)⟩)
 rw [show w.drew.heap.size=w.heap.size from rfl] at ar aE kM;refine ⟨w.heap.size,G,xs++ys++aY.map (fun _=>af.any),_,cO,ar,kJ.trans hle,(va (w:=w) (p:=p)).trans (kJ (w:=w) (p:=p)).size aE,kM,?_,m7,?_⟩
 ·simp only [length_append,length_map,m8];omega
 ·rw [List.take_append_of_le_length cG,take_of_length_le cG]
theorem aZ.Gs (aP:bQ P Γ) (I:Ok s L) {t bH e:TypeId} {x y:Operand} {it ct aG:bM} {dR bU:Nat} {ys:List af} {dj:bL}
  (ah:o.op = .call { callee := .builtin .append,args := #[x,y],argTypes := #[t,bH] }) (aM:Γ.get? t=some it) (br:it.bF = .aA e) (cV:Γ.get? bH=some ct) (dn:∀ k,ct.bF ≠ .int k)
  (bI:Γ.get? e=some aG) (U:aG.size=1) (dO:Nat.beq aG.zero.cells.size aG.size=true) (ab:aJ env x=some (.aA dR [] .nil)) (ay:aJ env y=some (.aA bU ys dj)) (c8:bU=1) (dJ:ys.all e7=true) (cP:1≤ys.length) (aq:ys.length*aG.bytes≤140737488355328) (ei:ys.length≤9223372036854775807)
  {X:af→ao→Prop}:aZ P N o env (aT s L) (fun r aj=>Grown s L e ys.length ys r aj) X:=by
 refine aZ.ki i' fun ro B a w p aI=>?_
 have ga:=aI.aJ ab;have fh:=aI.aJ ay;have eI:=fun val w'=>ua (P:=P) (a:=a) (val:=val) (w:=w) (w':=w') ah
 generalize ew:a.eval x=dP at ga eI;generalize fb:a.eval y=fU at fh eI;have sS:dP = .slice none 0 0:=by
  cases ga with
  | hR=>rfl
  | im a _ _ h=>rcases h with h|h<;>cases h
  | aA g off n cap _ vs _ _ az=>exact absurd C az
 subst sS
 obtain ⟨aW,cd,cs',w',fp,gB,hp,iW,l5,l6,mG,mH⟩:=Lg (ty:=o.type) aP aI.wf (base:=none) (n:=0) (cap:=0) (olds:=[]) (xs:=[]) aM br cV dn bI U dO .nil rfl (by
  have:=run_firstCells_none (P:=P) w.drew 1 0 0 0
  simpa using this) fh c8 dJ ag (by simpa using aq) ag
 rw [zero_add] at fp mG mH;exact ⟨_,w',_,p,_,eI _ _ fp,hp,iW,l5,⟨aW,cd,cs',rfl,rfl,⟨gB,I⟩,l6,mG,by simpa using mH⟩,.hv _⟩
theorem aZ.Gt (aP:bQ P Γ) (I:Ok s L) {t bH e:TypeId} {x y:Operand} {it ct aG:bM} {b n cap bU:Nat} {cs ys:List af} {dj:bL}
    (ah:o.op = .call { callee := .builtin .append,args := #[x,y],argTypes := #[t,bH] }) (aM:Γ.get? t=some it) (br:it.bF = .aA e) (cV:Γ.get? bH=some ct) (dn:∀ k,ct.bF ≠ .int k)
    (bI:Γ.get? e=some aG) (U:aG.size=1) (dO:Nat.beq aG.zero.cells.size aG.size=true) (ab:aJ env x=some (eo b n cap)) (ar:bp L (.own b) (.box e cs) R) (cv:cs.length=cap) (az:n≤cap) (iu:(cs.take n).all e7=true)
    (ay:aJ env y=some (.aA bU ys dj)) (c8:bU=1) (dJ:ys.all e7=true) (aq:(n+ys.length)*aG.bytes≤140737488355328) (ei:n+ys.length≤9223372036854775807)
    {X:af→ao→Prop}:aZ P N o env (aT s L) (fun r aj=>Grown s R e (n+ys.length) (cs.take n++ys) r aj) X:=by
  obtain ⟨cg,bY,eR⟩:=ar.perm I;refine aZ.ki i' fun ro B a w p aI=>?_
  have ga:=aI.aJ ab;have fh:=aI.aJ ay;have eI:=fun val w'=>ua (P:=P) (a:=a) (val:=val) (w:=w) (w':=w') ah
  generalize ew:a.eval x=dP at ga eI;generalize fb:a.eval y=fU at fh eI;cases ga;obtain ⟨vs,c4,dd,eZ⟩:=aI.wf.obj _ _ (ar.get I);have fw:vs.toList.length=cap:=by rw [dd.length,cv]
  have hA:=dd.take n;have vU:=qb hA iu;have pg:∀ w':World,(∀ j,w'.cell? ⟨b,j,none⟩=w.cell? ⟨b,j,none⟩)→(Builtin.firstCells 1 n (.slice (some ⟨b,0,none⟩) n cap)).run P w' = .ok (vs.toList.take n).toArray w':=by
    intro w' iL;refine run_firstCells_some (P:=P) w' 1 n ⟨b,0,none⟩ n cap (vs.toList.take n) (by rw [length_take,fw];omega) (fun j u hu=>?_);rw [k5,zero_add,iL,jB c4];rw [getElem?_take] at hu;split at hu
    · simpa using hu
    · cases hu
  by_cases au:cap<n+ys.length
  · obtain ⟨aW,cd,cs',w',fp,gB,hp,iW,l5,l6,mG,mH⟩:=Lg (ty:=o.type) aP aI.wf (base:=some ⟨b,0,none⟩) (n:=n) (cap:=cap) (olds:=vs.toList.take n) (xs:=cs.take n) aM br cV dn bI U dO hA xk
      (pg w.drew fun _=>rfl) fh c8 dJ au aq ei
    have hH:ao.Sub ((aT s R).set aW (.box e cs')) ((aT s L).set aW (.box e cs')):=by
      refine CC (k := .own aW) ?_;rw [cg];exact xK (k := .own b) (ao.ou _) bY
    have aw:aT s R aW=none:=by
      have h:=gB;rw [cg] at h;exact (ao.tL h).2
    exact ⟨_,w',_,p,_,eI _ _ fp,hp,iW.sub hH,l5.sub hH,⟨aW,cd,cs',rfl,rfl,⟨aw,eR⟩,l6,mG,mH⟩,.hv _⟩
  · obtain ⟨info,d,g1,g2,g3,-⟩:=aP.parts aM
    obtain ⟨mq,c3,ef,di,dL,-⟩:=aP.parts cV;obtain ⟨jL,kj,cD,dh,fa,eD,jM,jl⟩:=aP.parts bI;have ax:d = .slice e:=by rw [br] at g3;cases d<;>simp [ev] at g3;rw [g3]
    subst ax;have cl:∀ k,c3 ≠ .int k:=fun k e'=>by subst e';exact dn k dL.symm
    subst c8;obtain ⟨us,ic,pe,jN,j6,sy,sA,sB⟩:=qd (sz':=1) fh (.inr rfl);have my:=ic.length;have ma:∀ x∈us,x.oneCell'=true:=qb ic dJ;have sR:flat us=us:=sQ ma;have eH:vs.size=cap:=by rw [← length_toList];exact fw
    have cO:=B' (ty:=o.type) (P:=P) w g2 di cl cD b n cap vs c4 (xv:=fU) (m:=ys.length) (news:=us) (jN P) (by rw [eD,U];(conv=>rhs;rw [← sR]);exact j6 P w (fun _ _ _=>rfl)) ma ag (by rw [eD,U,eH];omega);rw [eD,U,mul_one] at cO;have hc:bG w p (vs.toList.take n++us++vs.toList.drop (n+us.length)) (cs.take n++ys++cs.drop (n+us.length)):=bG.append (bG.append hA ic) (dd.drop _);have ch:(aT s L) b=some (.box e cs):=ar.get I
    obtain ⟨dG,j',iy⟩:=vj aI.wf ch (vs':=(vs.toList.take n++us++vs.toList.drop (n+us.length)).toArray) (cs':=cs.take n++ys++cs.drop (n+us.length)) (fun zO bt=>by
      rw [c4] at bt;cases bt
      simp only [size_toArray,length_append,length_take,length_drop,fw]
      rw [eH];omega) (by simpa using hc) _ C
    obtain ⟨f1,f2⟩:=ar.put (.box e (cs.take n++ys++cs.drop (n+us.length))) I;refine ⟨_,_,_,p,_,eI _ _ cO,dG,j',iy,⟨b,cap,cs.take n++ys++cs.drop (n+us.length),rfl,f1,f2,?_,by omega,?_⟩,.hv _⟩
    · simp only [length_append,length_take,length_drop,cv];omega
    · have:(cs.take n++ys).length=n+ys.length:=by simp [cv];omega
      rw [List.take_append_of_le_length ag,take_of_length_le ag]
theorem aZ.Gu (aP:bQ P Γ) {t bH e:TypeId} {x y:Operand} {it ct aG:bM} {dR bU:Nat} {dj:bL}
  (ah:o.op = .call { callee := .builtin .append,args := #[x,y],argTypes := #[t,bH] }) (aM:Γ.get? t=some it) (br:it.bF = .aA e) (cV:Γ.get? bH=some ct) (dn:∀ k,ct.bF ≠ .int k)
  (bI:Γ.get? e=some aG) (ab:aJ env x=some (.aA dR [] .nil)) (ay:aJ env y=some (.aA bU [] dj)) {X:af→ao→Prop}:aZ P N o env s (fun r aj=>r = .aA 0 [] .nil∧aj=s) X:=by
 refine aZ.ki i' fun ro B a w p aI=>?_
 have ga:=aI.aJ ab;have fh:=aI.aJ ay;have eI:=fun val w'=>ua (P:=P) (a:=a) (val:=val) (w:=w) (w':=w') ah
 generalize ew:a.eval x=dP at ga eI;generalize fb:a.eval y=fU at fh eI;have sS:dP = .slice none 0 0:=by
  cases ga with
  | hR=>rfl
  | im a _ _ h=>rcases h with h|h<;>cases h
  | aA g off n cap _ vs _ _ az=>exact absurd C az
 subst sS;obtain ⟨info,d,g1,g2,g3,-⟩:=aP.parts aM;obtain ⟨mq,c3,ef,di,dL,-⟩:=aP.parts cV;obtain ⟨jL,kj,cD,dh,fa,eD,jM,jl⟩:=aP.parts bI;have ax:d = .slice e:=by rw [br] at g3;cases d<;>simp [ev] at g3;rw [g3]
 subst ax;have cl:∀ k,c3 ≠ .int k:=fun k e'=>by subst e';exact dn k dL.symm
 obtain ⟨us,ic,pe,jN,j6,sy,sA,sB⟩:=qd (sz':=aG.size) fh (.inl rfl);cases ic;have aB:=jN P;have a6:=j6 P w (fun _ _ _=>rfl);rw [List.length_nil] at aB a6;have bO:(match c3 with | .int _=>true|_=>false)=false:=by cases c3<;>first|rfl|exact absurd C (cl _)
 have cO:(Builtin.append_ #[t,bH] o.type #[.slice none 0 0,fU]).run P w = .ok (.slice none 0 0) w:=by
  simp [Builtin.append_,run_underlying g2,run_underlying di,sizeOf,typeInfo,cD,eD,bO,aB,a6]
 exact ⟨_,w,s,p,_,eI _ _ cO,.refl w p,.refl s w p,aI.wf,⟨rfl,rfl⟩,.hR _ _ (fun _=>by simp)⟩
theorem aa.Gu (aP:bQ P Γ) {t bH e:TypeId} {x y:Operand} {it ct aG:bM} {dR bU:Nat} {dj:bL} (aw:guardOf ops env o=some true) (ax:o.dst=some d) (aU:Nat.blt d N=true)
  (ah:o.op = .call { callee := .builtin .append,args := #[x,y],argTypes := #[t,bH] }) (aM:Γ.get? t=some it) (br:it.bF = .aA e) (cV:Γ.get? bH=some ct) (dn:∀ k,ct.bF ≠ .int k)
  (bI:Γ.get? e=some aG) (ab:aJ env x=some (.aA dR [] .nil)) (ay:aJ env y=some (.aA bU [] dj)) (h:aa P N ops l Q ((d,.aA 0 [] .nil)::env) s):aa P N ops (o::l) Q env s:=
 aa.op aw ax aU (aZ.Gu aP ah aM br cV dn bI ab ay (X:=fun _ _=>False)) (fun x aj ⟨U,ad⟩=>by subst U;subst ad;exact h) (fun _ _ h=>h.elim)
theorem aa.Gs (aP:bQ P Γ) (I:Ok s L) {t bH e:TypeId} {x y:Operand} {it ct aG:bM} {dR bU:Nat} {ys:List af} {dj:bL} (aw:guardOf ops env o=some true) (ax:o.dst=some d) (aU:Nat.blt d N=true)
  (ah:o.op = .call { callee := .builtin .append,args := #[x,y],argTypes := #[t,bH] }) (aM:Γ.get? t=some it) (br:it.bF = .aA e) (cV:Γ.get? bH=some ct) (dn:∀ k,ct.bF ≠ .int k)
  (bI:Γ.get? e=some aG) (U:aG.size=1) (dO:Nat.beq aG.zero.cells.size aG.size=true) (ab:aJ env x=some (.aA dR [] .nil)) (ay:aJ env y=some (.aA bU ys dj)) (c8:bU=1) (dJ:ys.all e7=true) (cP:1≤ys.length) (aq:ys.length*aG.bytes≤140737488355328) (ei:ys.length≤9223372036854775807)
  (h:∀ aW cd cs',cs'.length=cd→ys.length≤cd→cs'.take ys.length=ys→Ok s ((.own aW,.box e cs')::L)→aa P N ops l Q ((d,eo aW ys.length cd)::env) (aT s ((.own aW,.box e cs')::L))):aa P N ops (o::l) Q env (aT s L):=by
 refine aa.op aw ax aU (aZ.Gs aP I ah aM br cV dn bI U dO ab ay c8 dJ cP aq ei (X:=fun _ _=>False)) ?_ (fun _ _ h=>h.elim);rintro r aj ⟨aW,cd,cs',rfl,rfl,ad,al,bd,bD⟩;exact h aW cd cs' al bd bD ad
theorem aa.Gt (aP:bQ P Γ) (I:Ok s L) {t bH e:TypeId} {x y:Operand} {it ct aG:bM} {b n cap bU:Nat} {cs ys:List af} {dj:bL} (aw:guardOf ops env o=some true) (ax:o.dst=some d) (aU:Nat.blt d N=true)
  (ah:o.op = .call { callee := .builtin .append,args := #[x,y],argTypes := #[t,bH] }) (aM:Γ.get? t=some it) (br:it.bF = .aA e) (cV:Γ.get? bH=some ct) (dn:∀ k,ct.bF ≠ .int k)
  (bI:Γ.get? e=some aG) (U:aG.size=1) (dO:Nat.beq aG.zero.cells.size aG.size=true) (ab:aJ env x=some (eo b n cap)) (ar:bp L (.own b) (.box e cs) R) (cv:cs.length=cap) (az:n≤cap) (iu:(cs.take n).all e7=true)
  (ay:aJ env y=some (.aA bU ys dj)) (c8:bU=1) (dJ:ys.all e7=true) (aq:(n+ys.length)*aG.bytes≤140737488355328) (ei:n+ys.length≤9223372036854775807)
  (h:∀ aW cd cs',cs'.length=cd→n+ys.length≤cd→cs'.take (n+ys.length)=cs.take n++ys→Ok s ((.own aW,.box e cs')::R)→aa P N ops l Q ((d,eo aW (n+ys.length) cd)::env) (aT s ((.own aW,.box e cs')::R))):aa P N ops (o::l) Q env (aT s L):=by
 refine aa.op aw ax aU (aZ.Gt aP I ah aM br cV dn bI U dO ab ar cv az iu ay c8 dJ aq ei (X:=fun _ _=>False)) ?_ (fun _ _ h=>h.elim);rintro r aj ⟨aW,cd,cs',rfl,rfl,ad,al,bd,bD⟩;exact h aW cd cs' al bd bD ad
end
end Go.cU
