import Derived.Test.YtnafpeohfbglmaaGreatPc
import Derived.Shelf.Sort.Plain
import Derived.KernelRfl
import Derived.WalkKit
import Derived.Defers
import Derived.Recover
import Derived.Laws.MakeOwn
import Derived.Laws.CopyRow
set_option linter.unusedVariables false
set_option linter.unusedSimpArgs false
set_option maxRecDepth 100000
set_option maxHeartbeats 4000000
theorem xQ {p:Prop} (h:p:=by repeat (first|exact trivial|refine ⟨⟨_,rfl,aR⟩,?_⟩|refine ⟨⟨_,rfl,a8.of_eq (by (rw [e0 (by omega) (by omega)];push_cast;rfl))⟩,?_⟩)):p:=h
theorem AF {p:Prop} (h:p:=by repeat (first|exact trivial|refine ⟨⟨_,rfl,aR⟩,?_⟩|refine ⟨⟨_,rfl,a8.of_eq (by (rw [e0 (by omega) (by omega)];rfl))⟩,?_⟩)):p:=h
theorem tZ {p:Prop} (h:p:=by repeat (first|exact trivial|refine ⟨⟨_,rfl,aR⟩,?_⟩|refine ⟨⟨_,rfl,a8.of_eq (by (first|rw [nt (by omega)]|rw [aw]))⟩,?_⟩)):p:=h
theorem sj {p:Prop} (h:p:=by repeat (first|exact trivial|refine ⟨⟨_,rfl,aR⟩,?_⟩|refine ⟨⟨_,rfl,a8.of_eq (by (rw [e0 (by omega) (by omega)]))⟩,?_⟩)):p:=h
theorem xR {p:Prop} (h:p:=by repeat (first|exact trivial|refine ⟨⟨_,rfl,aR⟩,?_⟩|refine ⟨⟨_,rfl,a8.of_eq (by (rw [jc,hw]))⟩,?_⟩)):p:=h
theorem xS {p:Prop} (h:p:=by repeat (first|exact trivial|refine ⟨⟨_,rfl,aR⟩,?_⟩|refine ⟨⟨_,rfl,a8.of_eq (by simp)⟩,?_⟩)):p:=h
theorem AG {p:Prop} (h:p:=by simp only [List.length_nil,Nat.zero_add,List.length_map];omega):p:=h
theorem t' {p:Prop} (h:p:=by first|(simp_all [];done)|(simp_all []<;>omega)):p:=h
theorem p2 {p:Prop} (h:p:=by show xs.length-(j+1)<xs.length-j;omega):p:=h
theorem ua {p:Prop} (h:p:=by show g.length-(j+1)<g.length-j;omega):p:=h
theorem xT {p:Prop} (h:p:=by show a.length-(j+1)<a.length-j;omega):p:=h
theorem mK {p:Prop} (h:p:=by show (_+1)*8≤_;omega):p:=h
theorem jO {p:Prop} (h:p:=by intro b h;cases h):p:=h
theorem rk {p:Prop} (h:p:=by simpa using U):p:=h
theorem ub {p:Prop} (h:p:=by split<;>omega):p:=h
theorem eQ {p:Prop} (h:p:=by intro k;simp):p:=h
theorem k4 {p:Prop} (h:p:=by simp<;>omega):p:=h
theorem dd {p:Prop} (h:p:=by decide):p:=h
namespace Go.bj
def dG (b n cap:Nat):ad := .gx (.slice (some ⟨b,0,none⟩) n cap)
theorem bO.xU {w:World} {p:bN}:∀ vs:List Value,bO w p vs (vs.map fun _ => .any)
 | [] => .nil
 | v::vs => .cons v .any vs _ (.any v) (bO.xU vs)
theorem xV {v:Value} (h:v.oneCell'=true):v.cells = #[v]:=by
 cases v<;>first|rfl|(simp [Value.oneCell'] at h;done)
theorem rl:∀ {vs:List Value},(∀ v∈vs,v.oneCell'=true)→flat vs=vs
  | [],_=>rfl
  | v::vs,h=>by
    have U:=rl (vs:=vs) fun u hu=>h u (List.mem_cons_of_mem _ hu)
    unfold flat at U ⊢;rw [List.flatMap_cons,U,xV (h v List.mem_cons_self)];rfl
section
variable {P:Program} {Γ:cg} {N:Nat} {ops:Array Oper} {Q:b2→Env→aj→Prop} {env:Env} {s:aj} {l:List Oper} {o:Oper} {d:Nat} {L R:a6}
def Grown (s:aj) (R:a6) (e:TypeId) (n:Nat) (xs:List ad) (r:ad) (ah:aj):Prop:=
 ∃ aT b' cs',r=dG aT n b'∧ah=aQ s ((.own aT,.box e cs')::R)∧Ok s ((.own aT,.box e cs')::R)∧cs'.length=b'∧n≤b'∧cs'.take n=xs
theorem HA (aO:bL P Γ) {w:World} {p:bN} {S:aj} (b6:c0 w p S) {t bG e ty:TypeId} {it cp aB:bJ} {bV:Nat} {olds:List Value} {xs:List ad} {v:ad} {dh:bU} {base:Option Addr} {n cap:Nat} {o7:Value}
  (aK:Γ.get? t=some it) (bo:it.bz = .aA e) (cS:Γ.get? bG=some cp) (dp:∀ k,cp.bz ≠ .int k) (bF:Γ.get? e=some aB) (U:aB.size=1) (dJ:Nat.beq aB.zero.cells.size aB.size=true)
  (az:bO w p olds xs) (aC:n=xs.length) (qY:(Builtin.firstCells 1 n (.slice base n cap)).run P w.drew = .ok olds.toArray w.drew) (ay:Rel w p o7 (.aA bV [v] dh)) (cY:bV=1) (dB:eN v=true)
  (aG:cap<n+1) (an:(n+1)*aB.bytes≤140737488355328) (dY:n+1≤9223372036854775807) :
  ∃ aT b' cs' w',(Builtin.append_ #[t,bG] ty #[.slice base n cap,o7]).run P w = .ok (.slice (some ⟨aT,0,none⟩) (n+1) b') w'∧S aT=none∧cV w p w' p∧Kept S (S.set aT (.box e cs')) w p w' p∧c0 w' p (S.set aT (.box e cs')) ∧
   cs'.length=b'∧n+1≤b'∧cs'.take (n+1)=xs++[v]:=by
 obtain ⟨info,d,g1,g2,g3,-⟩:=aO.parts aK;obtain ⟨ln,cM,dD,c1,dn,-⟩:=aO.parts cS;obtain ⟨iH,jq,cz,dj,ft,ej,kW,kX⟩:=aO.parts bF;have ar:d = .slice e:=by rw [bo] at g3;cases d<;>simp [dP] at g3;rw [g3]
 subst ar;have cb:∀ k,cM ≠ .int k:=fun k e'=>by subst e';exact dp k dn.symm
 obtain ⟨us,hs,nX,iI,i',q0,q1,q2⟩:=oV ay (.inr cY);have lu:=hs.length;cases hs with
 | cons u _ tu _ hu uc=>
 cases uc;subst cY;have rm:flat [u]=[u]:=rl (by intro x ab;rw [List.mem_singleton] at ab;subst ab;exact CF hu dB);have eU:=growslice_fits (need:=n+1) (old:=cap) (bytes:=aB.bytes) aG an;have cx:=xt (ty:=ty) w g2 c1 cb cz kX (base:=base) (sLen:=n) (sCap:=cap) (m:=1) (olds:=olds) (news:=[u]) (iI P)
  (by rw [ej,U];exact qY) (by rw [ej,U,← rm];exact i' P w.drew (fun _ _ _=>rfl)) aG ai (by rw [kW];exact eU)
 have l7:n+1≤grownCap w (n+1) cap e:=by simp [grownCap,Question.cut]
 have gC:olds.length=n:=by rw [az.length,aC]
 have nd:=Nat.eq_of_beq_eq_true dJ;generalize qZ:(Builtin.zeroCells aB.zero.cells (grownCap w (n+1) cap e-(n+1))).toList=a1 at cx;have lv:a1.length=grownCap w (n+1) cap e-(n+1):=by
  rw [← qZ,Array.length_toList];simp [Builtin.zeroCells,nd,U]
 generalize grownCap w (n+1) cap e=G at cx l7 lv;have ud:=vo b6
 obtain ⟨aw,hle,aD,jM⟩:=pP ud (.cells (olds++[u]++a1).toArray e (0,0)) (.box e (xs++[v]++a1.map fun _ => .any)) (fun w' hS av fa=>⟨_,hS,by
  refine bO.append (bO.append (fa _ _ (show bO w.drew p olds xs from az.mono jH)) (fa _ _ (.cons _ _ _ _ (hu.mono jH) .nil))) (bO.xU a1),fun o aN=>absurd (b6.lt _ _ aN) (by show ¬ w.heap.size<w.heap.size;omega)⟩)
 rw [show w.drew.heap.size=w.heap.size from rfl] at aw aD jM;refine ⟨w.heap.size,G,xs++[v]++a1.map (fun _=>ad.any),_,cx,aw,jH.trans hle,(ti (w:=w) (p:=p)).trans (jH (w:=w) (p:=p)).size aD,jM,?_,l7,?_⟩
 ·simp only [List.length_append,List.length_map,List.length_singleton,lv];omega
 ·rw [List.take_append_of_le_length dq,List.take_of_length_le dq]
theorem sk {t bG:TypeId} {x y:Operand} {a:Act} {val:Value} {w w':World} (ag:o.op = .call { callee := .builtin .append,args := #[x,y],argTypes := #[t,bG] }) (h:(Builtin.append_ #[t,bG] o.type #[a.eval x,a.eval y]).run P w = .ok val w') :
  (execOp a.eval o).run P w = .ok (.value val) w':=by
 unfold execOp;rw [ag];simp only [resolve,invoke,builtin,Sem.run_bind,Sem.run_pure,Result.andThen_ok,List.map_toArray,List.map_cons,List.map_nil,h]
theorem aU.Ds (aO:bL P Γ) (I:Ok s L) {t bG e:TypeId} {x y:Operand} {it cp aB:bJ} {dL bV:Nat} {v:ad} {dh:bU}
  (ag:o.op = .call { callee := .builtin .append,args := #[x,y],argTypes := #[t,bG] }) (aK:Γ.get? t=some it) (bo:it.bz = .aA e) (cS:Γ.get? bG=some cp) (dp:∀ k,cp.bz ≠ .int k)
  (bF:Γ.get? e=some aB) (U:aB.size=1) (dJ:Nat.beq aB.zero.cells.size aB.size=true) (ab:aJ env x=some (.aA dL [] .nil)) (ay:aJ env y=some (.aA bV [v] dh)) (cY:bV=1) (dB:eN v=true) (an:1*aB.bytes≤140737488355328)
  {X:ad→aj→Prop}:aU P N o env (aQ s L) (fun r ah=>Grown s L e 1 [v] r ah) X:=by
 refine aU.jo h6 fun ro B a w p aF=>?_
 have fw:=aF.aJ ab;have eV:=aF.aJ ay;have ei:=fun val w'=>sk (P:=P) (a:=a) (val:=val) (w:=w) (w':=w') ag
 generalize dQ:a.eval x=dr at fw ei;generalize eO:a.eval y=fp at eV ei;have rn:dr = .slice none 0 0:=by
  cases fw with
  | gU=>rfl
  | hE a _ _ h=>rcases h with h|h<;>cases h
  | aA g off n cap _ vs _ _ aC=>exact absurd C aC
 subst rn
 obtain ⟨aT,b',cs',w',eE,e9,fH,h2,kY,kZ,lI,lJ⟩:=HA (ty:=o.type) aO aF.wf (base:=none) (n:=0) (cap:=0) (olds:=[]) (xs:=[]) aK bo cS dp bF U dJ .nil rfl (by
  have:=run_firstCells_none (P:=P) w.drew 1 0 0 0
  simpa using this) eV cY dB ai (by simpa using an) ai
 exact ⟨_,w',_,p,_,ei _ _ eE,fH,h2,kY,⟨aT,b',cs',rfl,rfl,⟨e9,I⟩,kZ,lI,by simpa using lJ⟩,.gx _⟩
theorem aU.Dt (aO:bL P Γ) (I:Ok s L) {t bG e:TypeId} {x y:Operand} {it cp aB:bJ} {b n cap bV:Nat} {cs:List ad} {v:ad} {dh:bU}
    (ag:o.op = .call { callee := .builtin .append,args := #[x,y],argTypes := #[t,bG] }) (aK:Γ.get? t=some it) (bo:it.bz = .aA e) (cS:Γ.get? bG=some cp) (dp:∀ k,cp.bz ≠ .int k)
    (bF:Γ.get? e=some aB) (U:aB.size=1) (dJ:Nat.beq aB.zero.cells.size aB.size=true) (ab:aJ env x=some (dG b n cap)) (aw:aP L (.own b) (.box e cs) R) (cE:cs.length=cap) (aC:n≤cap) (gz:(cs.take n).all eN=true)
    (ay:aJ env y=some (.aA bV [v] dh)) (cY:bV=1) (dB:eN v=true) (an:(n+1)*aB.bytes≤140737488355328) (dY:n+1≤9223372036854775807)
    {X:ad→aj→Prop}:aU P N o env (aQ s L) (fun r ah=>Grown s R e (n+1) (cs.take n++[v]) r ah) X:=by
  obtain ⟨b8,bZ,eF⟩:=aw.perm I;refine aU.jo h6 fun ro B a w p aF=>?_
  have fw:=aF.aJ ab;have eV:=aF.aJ ay;have ei:=fun val w'=>sk (P:=P) (a:=a) (val:=val) (w:=w) (w':=w') ag
  generalize dQ:a.eval x=dr at fw ei;generalize eO:a.eval y=fp at eV ei;cases fw;obtain ⟨vs,cr,cJ,dW⟩:=aF.wf.obj _ _ (aw.get I);have fa:vs.toList.length=cap:=by rw [cJ.length,cE]
  have hc:=cJ.take n;have ue:=oT hc gz;have q6:∀ w':World,(∀ j,w'.cell? ⟨b,j,none⟩=w.cell? ⟨b,j,none⟩)→(Builtin.firstCells 1 n (.slice (some ⟨b,0,none⟩) n cap)).run P w' = .ok (vs.toList.take n).toArray w':=by
    intro w' hS;refine run_firstCells_some (P:=P) w' 1 n ⟨b,0,none⟩ n cap (vs.toList.take n) (by rw [List.length_take,fa];omega) (fun j u hu=>?_);rw [j4,Nat.zero_add,hS,iz cr];rw [List.getElem?_take] at hu;split at hu
    · simpa using hu
    · cases hu
  by_cases aG:cap<n+1
  · obtain ⟨aT,b',cs',w',eE,e9,fH,h2,kY,kZ,lI,lJ⟩:=HA (ty:=o.type) aO aF.wf (base:=some ⟨b,0,none⟩) (n:=n) (cap:=cap) (olds:=vs.toList.take n) (xs:=cs.take n) aK bo cS dp bF U dJ hc vh
      (q6 w.drew fun _=>rfl) eV cY dB aG an dY
    have gH:aj.Sub ((aQ s R).set aT (.box e cs')) ((aQ s L).set aT (.box e cs')):=by
      refine Az (k := .own aT) ?_;rw [b8];exact vI (k := .own b) (aj.nf _) bZ
    have ao:aQ s R aT=none:=by
      have h:=e9;rw [b8] at h;exact (aj.r7 h).2
    exact ⟨_,w',_,p,_,ei _ _ eE,fH,h2.sub gH,kY.sub gH,⟨aT,b',cs',rfl,rfl,⟨ao,eF⟩,kZ,lI,lJ⟩,.gx _⟩
  · obtain ⟨info,d,g1,g2,g3,-⟩:=aO.parts aK
    obtain ⟨ln,cM,dD,c1,dn,-⟩:=aO.parts cS;obtain ⟨iH,jq,cz,dj,ft,ej,kW,kX⟩:=aO.parts bF;have ar:d = .slice e:=by rw [bo] at g3;cases d<;>simp [dP] at g3;rw [g3]
    subst ar;have cb:∀ k,cM ≠ .int k:=fun k e'=>by subst e';exact dp k dn.symm
    subst cY;obtain ⟨us,hs,nX,iI,i',q0,q1,q2⟩:=oV (sz':=1) eV (.inr rfl);cases hs with
    | cons u _ tu _ hu uc=>
    cases uc;have k5:∀ x∈[u],x.oneCell'=true:=by intro x ab;rw [List.mem_singleton] at ab;subst ab;exact CF hu dB
    have rm:flat [u]=[u]:=rl k5;have eh:vs.size=cap:=by rw [← Array.length_toList];exact fa
    have cx:=z6 (ty:=o.type) (P:=P) w g2 c1 cb cz b n cap vs cr (xv:=fp) (m:=1) (news:=[u]) (iI P) (by rw [ej,U,← rm];exact i' P w (fun _ _ _=>rfl)) k5 ai (by rw [ej,U,eh];simp;omega);rw [ej,U,Nat.mul_one] at cx;have gq:bO w p (vs.toList.take n++[u]++vs.toList.drop (n+[u].length)) (cs.take n++[v]++cs.drop (n+1)):=bO.append (bO.append hc (.cons _ _ _ _ hu .nil)) (cJ.drop _);have cX:(aQ s L) b=some (.box e cs):=aw.get I
    obtain ⟨dU,jd,je⟩:=tt aF.wf cX (vs':=(vs.toList.take n++[u]++vs.toList.drop (n+[u].length)).toArray) (cs':=cs.take n++[v]++cs.drop (n+1)) (fun xW bB=>by
      rw [cr] at bB;cases bB
      simp only [List.size_toArray,List.length_append,List.length_take,List.length_drop,List.length_singleton,fa]
      rw [eh];omega) (by simpa using gq) _ C
    obtain ⟨f1,f2⟩:=aw.put (.box e (cs.take n++[v]++cs.drop (n+1))) I;refine ⟨_,_,_,p,_,ei _ _ cx,dU,jd,je,⟨b,cap,cs.take n++[v]++cs.drop (n+1),rfl,f1,f2,?_,by omega,?_⟩,.gx _⟩
    · simp only [List.length_append,List.length_take,List.length_drop,List.length_singleton,cE];omega
    · have:(cs.take n++[v]).length=n+1:=by simp [cE];omega
      rw [List.take_append_of_le_length ai,List.take_of_length_le ai]
theorem aa.Ds (aO:bL P Γ) (I:Ok s L) {t bG e:TypeId} {x y:Operand} {it cp aB:bJ} {dL bV:Nat} {v:ad} {dh:bU} (ao:guardOf ops env o=some true) (ar:o.dst=some d) (aX:Nat.blt d N=true)
  (ag:o.op = .call { callee := .builtin .append,args := #[x,y],argTypes := #[t,bG] }) (aK:Γ.get? t=some it) (bo:it.bz = .aA e) (cS:Γ.get? bG=some cp) (dp:∀ k,cp.bz ≠ .int k)
  (bF:Γ.get? e=some aB) (U:aB.size=1) (dJ:Nat.beq aB.zero.cells.size aB.size=true) (ab:aJ env x=some (.aA dL [] .nil)) (ay:aJ env y=some (.aA bV [v] dh)) (cY:bV=1) (dB:eN v=true) (an:1*aB.bytes≤140737488355328)
  (h:∀ aT b' cs',cs'.length=b'→1≤b'→cs'.take 1=[v]→Ok s ((.own aT,.box e cs')::L)→aa P N ops l Q ((d,dG aT 1 b')::env) (aQ s ((.own aT,.box e cs')::L))):aa P N ops (o::l) Q env (aQ s L):=by
 refine aa.op ao ar aX (aU.Ds aO I ag aK bo cS dp bF U dJ ab ay cY dB an (X:=fun _ _=>False)) ?_ (fun _ _ h=>h.elim);rintro r ah ⟨aT,b',cs',rfl,rfl,ae,al,bl,bD⟩;exact h aT b' cs' al bl bD ae
theorem aa.Dt (aO:bL P Γ) (I:Ok s L) {t bG e:TypeId} {x y:Operand} {it cp aB:bJ} {b n cap bV:Nat} {cs:List ad} {v:ad} {dh:bU} (ao:guardOf ops env o=some true) (ar:o.dst=some d) (aX:Nat.blt d N=true)
  (ag:o.op = .call { callee := .builtin .append,args := #[x,y],argTypes := #[t,bG] }) (aK:Γ.get? t=some it) (bo:it.bz = .aA e) (cS:Γ.get? bG=some cp) (dp:∀ k,cp.bz ≠ .int k)
  (bF:Γ.get? e=some aB) (U:aB.size=1) (dJ:Nat.beq aB.zero.cells.size aB.size=true) (ab:aJ env x=some (dG b n cap)) (aw:aP L (.own b) (.box e cs) R) (cE:cs.length=cap) (aC:n≤cap) (gz:(cs.take n).all eN=true)
  (ay:aJ env y=some (.aA bV [v] dh)) (cY:bV=1) (dB:eN v=true) (an:(n+1)*aB.bytes≤140737488355328) (dY:n+1≤9223372036854775807)
  (h:∀ aT b' cs',cs'.length=b'→n+1≤b'→cs'.take (n+1)=cs.take n++[v]→Ok s ((.own aT,.box e cs')::R)→aa P N ops l Q ((d,dG aT (n+1) b')::env) (aQ s ((.own aT,.box e cs')::R))):aa P N ops (o::l) Q env (aQ s L):=by
 refine aa.op ao ar aX (aU.Dt aO I ag aK bo cS dp bF U dJ ab aw cE aC gz ay cY dB an dY (X:=fun _ _=>False)) ?_ (fun _ _ h=>h.elim);rintro r ah ⟨aT,b',cs',rfl,rfl,ae,al,bl,bD⟩;exact h aT b' cs' al bl bD ae
theorem c9.sl {B:ff} {ro:Option Nat} {a:Act} {w:World} {p:bN} (h:c9 N B ro env s a w p) {t b n cap:Nat} {T:TypeId} {cs:List ad} (aK:env.get? t=some (dG b n cap)) (aw:s b=some (.box T cs)) (cE:cs.length=cap) (aC:n≤cap) (hm:n≤9223372036854775807)
  (gz:(cs.take n).all eN=true):∃ bb,c9 N B ro ((t,.aA 1 (cs.take n) .bd)::env) (s.del b) a w bb∧cV w p w bb∧Kept s (s.del b) w p w bb:=by
 have C4:c9 N B ro ((a.tmps.size,.any)::[]) s a w p:=h.restrict _ (fun t v av=>by
  simp only [Env.get?] at av
  split at av
  ·cases av;exact .any _
  ·cases av)
 obtain ⟨vs,U,ae,al⟩:=h.wf.obj _ _ aw;have aG:b<w.heap.size:=(Array.getElem?_eq_some_iff.1 U).1;have hle:cV w p w (p.dA b True):=⟨rfl,rfl,rfl,Nat.le_refl _,fun _ _ h => .inl h,fun _ _ _=>rfl,fun _ _ h=>h⟩
 have aD:Kept s (s.del b) w p w (p.dA b True):=⟨fun _ _ _=>rfl,fun aT an aC=>by
  by_cases e:aT=b
  ·subst e;exact aj.l5 _ _
  ·rw [aj.lp _ e];exact aC,fun aT o an aC aN=>by
   rcases aN with aN|⟨rfl,_⟩
   ·exact aN
   ·rw [aw] at aC;cases aC⟩
 have b6:c0 w (p.dA b True) (s.del b):=by
  refine ⟨fun aT o an=>?_,fun aT o aN=>by rcases aN with aN|⟨rfl,_⟩;exact h.wf.lt _ _ aN;exact aG⟩;by_cases e:aT=b
  ·subst e;rw [aj.l5] at an;cases an
  ·rw [aj.lp _ e] at an
   have ag:=h.wf.obj aT o an;have eZ:∀ o,p.dA b True aT o↔p aT o:=fun o=>⟨fun aN=>by rcases aN with aN|⟨e',_⟩;exact aN;exact absurd e' e,.inl⟩
   cases o with
   | box t c=>obtain ⟨us,g1,g2,g3⟩:=ag;exact ⟨us,g1,g2.mono hle,fun o aN=>g3 o ((eZ o).1 aN)⟩
   | row t sz n=>obtain ⟨cur,g1,g2,g3,g4⟩:=ag;exact ⟨cur,g1,g2,g3,fun o=>(eZ o).trans (g4 o)⟩
   | map es=>obtain ⟨cw,c,g1,g2,g3⟩:=ag;exact ⟨cw,c,g1,⟨g2.1.mono hle,g2.2.mono hle⟩,g3⟩
   | j2 es it l c=>exact ag.oO hle C C
   | tick m=>exact ag
   | loop r env=>exact ⟨ag.1,fun t v h=>(ag.2 t v h).mono hle⟩
 have aF:=h.step hle aD b6;refine ⟨_,⟨aF.size,fun bG v av=>?_,aF.wf,aF.defs,aF.round,aF.base⟩,hle,aD⟩;simp only [Env.get?] at av;split at av
 ·rename_i he
  have:=Nat.eq_of_beq_eq_true he;subst this;cases av;have az:=h.env t _ aK;generalize a.tmps.getD t undef=dr at az;cases az;have hc:=ae.take n;have ue:=oT hc gz;have jm:=rl ue;refine .aA b 0 n cap 1 (vs.toList.take n) (cs.take n) .bd bn vh ?_ (hc.mono hle) (fun v av=>by rw [xV (ue v av)];rfl) hm aC (fun h=>by cases h) (fun b h=>by cases h);rw [jm];intro i v aY;refine ⟨.inr ⟨rfl,trivial⟩,?_⟩;rw [Nat.zero_add,iz U];rw [List.getElem?_take] at aY;split at aY
  ·simpa using aY
  ·cases aY
 ·exact aF.env bG v av
theorem af.sl {c:Code} (I:Ok s L) (t b:Nat) {n cap:Nat} {T:TypeId} {cs:List ad} (aK:env.get? t=some (dG b n cap)) (aw:aP L (.own b) (.box T cs) R) (cE:cs.length=cap) (aC:n≤cap) (hm:n≤9223372036854775807) (gz:(cs.take n).all eN=true)
  (h:Ok s R→af P N c Q ((t,.aA 1 (cs.take n) .bd)::env) (aQ s R)):af P N c Q env (aQ s L):=by
 obtain ⟨U,ae⟩:=aw.del I;intro rp B a w p et aF;obtain ⟨bb,al,bl,bD⟩:=aF.sl aK (aw.get I) cE aC hm gz;rw [U] at al bD;exact kR (h ae rp B a w bb et al) fun _ _ _ q=>q.after bl bD
end
section
open Go.Sort
variable {P:Program} {α:Type}
theorem xX {w:World} {p:bN} (k:Nat):cV w p (Sort.ahead w k) p:=⟨rfl,rfl,rfl,Nat.le_refl _,fun _ _ h=>h,fun _ _ _=>rfl,fun _ _ h=>h⟩
theorem O8 {w:World} {p:bN} {s:aj} (k:Nat) (h:c0 w p s):c0 (Sort.ahead w k) p s:=h.grow (xX k) (fun _ _=>rfl) (fun _ _ _ h=>h) h.lt
theorem O9 {w:World} {p:bN} {s:aj} (k:Nat):Kept s s w p (Sort.ahead w k) p:=⟨fun _ _ _=>rfl,fun _ _ h=>h,fun _ _ _ _ h=>h⟩
theorem Du (w:World) (os:Array Obj) (b:Nat) (h:b<w.heap.size):(grow w os).heap[b]? = w.heap[b]?:=by
 show (w.heap++os)[b]? = _;rw [Array.getElem?_append_left h]
theorem HB {w:World} {p:bN} (aG:∀ b o,p b o→b<w.heap.size) (os:Array Obj):cV w p (grow w os) p:=
 cV.of_heap C C C (by show w.heap.size≤(w.heap++os).size;simp) (fun _ _ h=>h) aG (fun b an=>Du w os b an)
theorem O' {w:World} {p:bN} {s:aj} (h:c0 w p s) (os:Array Obj):c0 (grow w os) p s:=
 h.grow (HB h.lt os) (fun b an=>Du w os b an) (fun _ _ _ h=>h) (fun b o aN=>Nat.lt_of_lt_of_le (h.lt b o aN) (by show w.heap.size≤(w.heap++os).size;simp))
theorem Pa {w:World} {p:bN} {s:aj} (os:Array Obj):Kept s s w p (grow w os) p:=⟨fun b an _=>Du w os b an,fun _ _ h=>h,fun _ _ _ _ h=>h⟩
theorem HC {w:World} {p:bN} {enc:α→Value} {encA:α→ad} (ae:∀ w p a,Rel w p (enc a) (encA a)):∀ l:List α,bO w p (l.map enc) (l.map encA)
 | [] => .nil
 | a::l => .cons _ _ _ _ (ae w p a) (HC ae l)
theorem HD {w:World} {p:bN} {enc:α→Value} {encA:α→ad} (U:∀ w p v a,Rel w p v (encA a)→v=enc a):∀ {l:List α} {vs:List Value},bO w p vs (l.map encA)→vs=l.map enc
  | [],vs,h=>by cases h;rfl
  | a::l,vs,h=>by
    cases h with
    | cons v _ vs' _ av aK=>rw [U _ _ _ _ av,HD U aK];rfl
variable [Inhabited α]
theorem bu.sort {f:FuncId} {enc:α→Value} {encA:α→ad} {le:α→α→Bool} {e:TypeId} (aE:aW P f) (U:∀ w p v a,Rel w p v (encA a)→v=enc a) (ae:∀ w p a,Rel w p (enc a) (encA a))
  (Pb:∀ (p3 off cap:Nat) (fB:List α) (w:World),Holds enc w p3 off fB.toArray→p3<w.heap.size→fB.length<4611686018427387904→Calls P f #[.slice (some ⟨p3,off,none⟩) fB.length cap] w fun e w'=>e = .returned (.tuple #[])∧∃ n os,w'=grow (putRow enc (Sort.ahead w n) p3 off (fB.mergeSort le).toArray) os)
  (b cap:Nat) (fB:List α) (rest:List ad) (aI:fB.length<4611686018427387904) :
  bu P f [dG b fB.length cap] [(.own b,.box e (fB.map encA++rest))] (fun o K=>o = .ret (.cl [])∧K=[(.own b,.box e ((fB.mergeSort le).map encA++rest))]):=by
 intro s I;refine ⟨aE,fun w p vs b6 en=>?_⟩;cases en with
 | cons v _ vs' _ av aK=>
 cases aK;cases av;obtain ⟨cur,cr,cJ,dW⟩:=b6.obj b _ (aj.fu _ _ _);have aG:b<w.heap.size:=(Array.getElem?_eq_some_iff.1 cr).1;have cE:cur.toList=fB.map enc++cur.toList.drop fB.length:=by
  have al:=cJ.take fB.length;rw [List.take_append_of_le_length bn,List.take_of_length_le (l:=fB.map encA) bn] at al;rw [← HD U al,List.take_append_drop]
 have gJ:fB.length≤cur.size:=by
  have:=cJ.length;rw [Array.length_toList] at this;rw [this];simp
 have Dv:Holds enc w b 0 fB.toArray:=by
  intro j aS;have Dw:j<fB.length:=by simpa using aS
  refine ⟨?_,by simp [World.frozen?,cr]⟩;rw [Nat.zero_add,iz cr,← Array.getElem?_toList,cE,List.getElem?_append_left (by simpa using Dw),List.getElem?_map,List.getElem?_eq_getElem Dw];simp [Dw]
 refine Calls.mono (Pb b 0 cap fB w Dv aG aI) ?_;rintro AH w' ⟨rfl,k,os,rfl⟩;refine ⟨by simp,.ret (.cl []),aQ s [(.own b,.box e ((fB.mergeSort le).map encA++rest))],p,.cl #[] [] .nil,⟨_,rfl,I,rfl,rfl⟩,?_⟩;have h5:(fB.mergeSort le).length=fB.length:=List.length_mergeSort fB;have q9:putRow enc (Sort.ahead w k) b 0 (fB.mergeSort le).toArray=(Sort.ahead w k).setRow b ((fB.mergeSort le).map enc++cur.toList.drop fB.length).toArray:=by
  unfold putRow mapBlock World.setRow;congr 1;refine Array.ext_getElem? fun i=>?_
  rw [Array.getElem?_modify,Array.getElem?_modify];by_cases e:b=i
  ·subst e
   rw [if_pos C,if_pos C];show (w.heap[b]?).map _=(w.heap[b]?).map _;rw [cr];simp only [Option.map_some,onCells];congr 2;refine Array.ext_getElem? fun j=>?_
   simp only [putCells,Array.getElem?_mapIdx,Nat.zero_le,true_and,Nat.zero_add,List.size_toArray,h5,Nat.sub_zero];rw [← Array.getElem?_toList,← Array.getElem?_toList];by_cases aS:j<fB.length
   ·rw [List.getElem?_append_left (by rw [List.length_map,h5];exact aS),List.getElem?_map,List.getElem?_eq_getElem (l:=fB.mergeSort le) (by rw [h5];exact aS)]
    have:j<cur.toList.length:=by rw [Array.length_toList];omega
    rw [List.getElem?_eq_getElem this];simp [aS,h5]
   ·rw [List.getElem?_append_right (by rw [List.length_map,h5];omega),List.length_map,h5,List.getElem?_drop]
    rw [show fB.length+(j-fB.length)=j by omega];cases cur.toList[j]? with
    | none=>rfl
    | some y=>simp [aS]
  ·rw [if_neg e,if_neg e]
 rw [q9];have gq:bO w p (((fB.mergeSort le).map enc++cur.toList.drop fB.length).toArray).toList ((fB.mergeSort le).map encA++rest):=by
  refine bO.append (HC ae _) ?_;have:=cJ.drop fB.length;rwa [List.drop_append_of_le_length bn,List.drop_of_length_le (l:=fB.map encA) bn,List.nil_append] at this
 have eJ:=O8 k b6;have cX:(aQ s [(.own b,.box e (fB.map encA++rest))]) b=some (.box e (fB.map encA++rest)):=aj.fu _ _ _
 obtain ⟨dU,jd,je⟩:=tt eJ cX (vs':=((fB.mergeSort le).map enc++cur.toList.drop fB.length).toArray) (cs':=(fB.mergeSort le).map encA++rest) (fun xW bB=>by
  have HE:w.heap[b]? = some (.cells xW e (0,0)):=bB
  rw [cr] at HE;cases HE
  simp only [List.size_toArray,List.length_append,List.length_map,h5,List.length_drop,Array.length_toList]
  omega) (gq.mono (xX k)) _ C
 rw [show (aQ s [(.own b,.box e (fB.map encA++rest))]).set b (.box e ((fB.mergeSort le).map encA++rest))=aQ s [(.own b,.box e ((fB.mergeSort le).map encA++rest))] from aj.set_set _ _ _ _] at jd je;refine ⟨((xX k).trans dU).trans (HB je.lt os),((O9 k).trans (xX (p:=p) k).size jd).trans ((xX k).trans dU).size (Pa os),O' je os⟩
end
section
variable {P:Program} {Γ:cg} {N:Nat} {ops:Array Oper} {Q:b2→Env→aj→Prop} {env:Env} {s:aj} {l:List Oper} {o:Oper} {d:Nat} {L R c4:a6}
end
end Go.bj
namespace Go.bj
section
variable {P:Program} {Γ:cg} {N:Nat} {env:Env} {s:aj}
variable {ops:Array Oper} {l:List Oper} {Q:b2→Env→aj→Prop} {o:Oper} {d m:Nat}
end
theorem bf.eH {P:Program} {Γ:cg} {N:Nat} {ops:Array Oper} {Q:b2→Env→aj→Prop} {D:Nat→Bool} {env:Env} {s:aj} (t:Nat) {b:Bool} (av:env.get? t=some (.bool b)) (he:b=true)
  (h:bf P Γ N ops Q D ((t,.bool true)::env) s):bf P Γ N ops Q D env s:=by
 subst he;refine bf.congr _ (fun x=>?_) h;show (if Nat.beq t x then _ else _)=_;split
 ·rename_i ab
  rw [← av,Nat.eq_of_beq_eq_true ab]
 ·rfl
theorem bf.dR {P:Program} {Γ:cg} {N:Nat} {ops:Array Oper} {Q:b2→Env→aj→Prop} {D:Nat→Bool} {env:Env} {s:aj} (t:Nat) {b:Bool} (av:env.get? t=some (.bool b)) (he:b=false)
  (h:bf P Γ N ops Q D ((t,.bool false)::env) s):bf P Γ N ops Q D env s:=by
 subst he;refine bf.congr _ (fun x=>?_) h;show (if Nat.beq t x then _ else _)=_;split
 ·rename_i ab
  rw [← av,Nat.eq_of_beq_eq_true ab]
 ·rfl
section
variable {P:Program} {Γ:cg} {N:Nat} {Q:b2→Env→aj→Prop} {env:Env} {s:aj} {l:List Oper} {m:Nat}
theorem bf.Da (aO:bL P Γ) {i:Nat} {o:Oper} {d:Nat} {t bG e:TypeId} {x y:Operand} {it cp aB:bJ} {dL bV n:Nat} {xs ys:List ad} {own dh:bU} (az:ed l.toArray m (idxs 0 l)=[i]) (ag:l.toArray[i]? = some o) (ar:o.dst=some d) (aX:Nat.blt d N=true)
  (ao:guardOf l.toArray (bc env (looks l.toArray o)) o=some true) (bW:o.op = .call { callee := .builtin .append,args := #[x,y],argTypes := #[t,bG] }) (aK:Γ.get? t=some it) (bo:it.bz = .aA e) (cS:Γ.get? bG=some cp) (dp:∀ k,cp.bz ≠ .int k)
  (bF:Γ.get? e=some aB) (ab:aJ (bc env (looks l.toArray o)) x=some (.aA dL xs own)) (ay:aJ (bc env (looks l.toArray o)) y=some (.aA bV ys dh)) (fI:dL=aB.size) (cY:ys=[]∨bV=aB.size)
  (dJ:Nat.beq aB.zero.cells.size aB.size=true) (dB:∀ y∈ys,jv aB.size y=true) (an:(xs.length+ys.length)*aB.bytes≤140737488355328) (dY:xs.length+ys.length≤9223372036854775807) (aC:n=xs.length)
  {n9:aj} (aw:n9=rowOf s e aB.size n own) (I:si s n own)
  (h:∀ cZ,si s (xs.length+ys.length) cZ→bf P Γ N l.toArray Q (bR (m|||2^i)) ((d,.aA aB.size (xs++ys) cZ)::env) (rowOf s e aB.size (xs.length+ys.length) cZ)):bf P Γ N l.toArray Q (bR m) env n9:=by
 subst aw;subst aC;refine bf.one az ag ar aX ao (aU.Da aO bW aK bo cS dp bF ab ay fI cY dJ dB an dY C I (X:=fun _ _=>False)) ?_ (fun _ _ h=>h.elim);rintro r ah ⟨cZ,U,-,-,rfl,rfl⟩;exact h cZ U
end
theorem gg.args {P:Program} {f:FuncId} {xs ys:List ad} {s:aj} {R:eb→aj→Prop} (aI:cA xs ys) (h:gg P f ys s R):gg P f xs s R:=
 ⟨h.1,fun w p vs b6 az=>h.2 w p vs b6 (aI.rel az)⟩
theorem bu.args {P:Program} {f:FuncId} {xs ys:List ad} {K:a6} {X3:eb→a6→Prop} (h:cA xs ys) (k:bu P f ys K X3):bu P f xs K X3:=fun s I=>gg.args h (k s I)
theorem a7.args {P:Program} {f:FuncId} {xs ys:List ad} {v:ad} (h:cA xs ys) (k:a7 P f ys v):a7 P f xs v:=fun s=>gg.args h (k s)
theorem o8 {Γ:cg} {env:Env} {s:aj} {a b:Nat} {t T:TypeId} {i:bJ} {cs:List ad} {v:ad} (he:env.get? a=some (.ptr b 0)) (aY:Γ.get? t=some i) (aw:s b=some (.box T cs)) (aI:gI i cs 0=some v) :
  mH Γ env s [.cell a t]=some v:=by simp [mH,tE,xA,he,aY,aw,aI]
theorem xY {Γ:cg} {env:Env} {s:aj} {a b c:Nat} {t T:TypeId} {i:bJ} {cs:List ad} {v u:ad} (he:env.get? a=some (.ptr b 0)) (aY:Γ.get? t=some i) (aw:s b=some (.box T cs)) (aI:gI i cs 0=some v) (aE:env.get? c=some u) :
  mH Γ env s [.cell a t,.tmp c]=some (.cl [v,u]):=by simp [mH,tE,xA,he,aY,aw,aI,aE]
theorem aa.kz {P:Program} {N:Nat} {ops:Array Oper} {Q:b2→Env→aj→Prop} {env:Env} {s:aj} {l:List Oper} {L:a6} (I:Ok s L) (e:TypeId) (sz n:Nat) (h:Ok s ((.nil,.row e sz n)::L)→aa P N ops l Q env (aQ s ((.nil,.row e sz n)::L))):aa P N ops l Q env (aQ s L):=h ⟨trivial,I⟩
theorem af.kz {P:Program} {N:Nat} {Q:b2→Env→aj→Prop} {env:Env} {s:aj} {c:Code} {L:a6} (I:Ok s L) (e:TypeId) (sz n:Nat) (h:Ok s ((.nil,.row e sz n)::L)→af P N c Q env (aQ s ((.nil,.row e sz n)::L))):af P N c Q env (aQ s L):=h ⟨trivial,I⟩
end Go.bj
namespace Go.bj
def HF (P:Program) {α:Type} (cj:α→ad) (l:Nat) (Go:List α→a6→Prop) (e6:a6→Prop) (fb:ad→a6→Prop):Prop:=
 ∀ x rem K,Go (x::rem) K→c2 P (kr l) [cj x] K (fun o aL=>(o = .ret (.bool true)∧Go rem aL)∨(o = .ret (.bool false)∧e6 aL)∨∃ v,o = .panic v∧fb v aL)
def vM (P:Program) (f:FuncId) (first cap:List ad) (lK:a6) {α:Type} (cj:α→ad) (xs:List α):Prop:=
 ∀ (l:Nat) (Go:List α→a6→Prop) (e6:a6→Prop) (fb:ad→a6→Prop),HF P cj l Go e6 fb→∀ K,Go xs K →
  bu P f (first++([kr l]++cap)) (lK++K) (fun o aL=>(o = .ret (.cl [])∧(Go [] aL∨e6 aL))∨∃ v,o = .panic v∧fb v aL)
theorem au.fh:∀ L:a6,au L L []
 | [] => .nil
 | (_,_)::L => .cons .here (au.fh L)
theorem au.there {L K R:a6} {e:bU×db} (h:au L K R):au (e::L) K (e::R):=by
 induction h with
 | nil=>exact .nil
 | cons h t a'=>exact .cons (.there h) a'
theorem au.app {L K R aL c4:a6} (h:au L K R) (fs:au R aL c4):au L (K++aL) c4:=by
 induction h with
 | nil=>exact fs
 | cons h t a'=>exact .cons h (a' fs)
theorem aP.app {L R:a6} {k:bU} {o:db}:∀ (K:a6),aP L k o R→aP (K++L) k o (K++R)
 | [],h=>h
 | _::K,h => .there (aP.app K h)
theorem aP.Pc {L R:a6} {k:bU} {o:db} (h:aP L k o R) (M:a6):aP (L++M) k o (R++M):=by
 induction h with
 | here=>exact .here
 | there h a'=>exact .there a'
theorem au.ik {L K c4 R:a6} (h:au L K c4):au (L++R) K (c4++R):=by
 induction h with
 | nil=>exact .nil
 | cons h t a'=>exact .cons (h.Pc _) a'
def At (s:aj) (X4:a6→Prop) (ah:aj):Prop:=∃ L K R,ah=aQ s L∧Ok s L∧au L K R∧X4 K
theorem At.mk {s:aj} {X4:a6→Prop} {L R:a6} (K:a6) (I:Ok s L) (aw:au L K R) (aH:X4 K):At s X4 (aQ s L):=⟨L,K,R,rfl,I,aw,aH⟩
theorem gM.less {P:Program} {fv:ad} {args:List ad} {s:aj} {R c4:eb→aj→Prop} (h:gM P fv args s R) (az:∀ o ah,R o ah→∃ ef,aj.Sub ef ah∧c4 o ef):gM P fv args s c4:=by
 intro w p v vs b6 av eh;refine (h w p v vs b6 av eh).mono ?_;rintro e w' ⟨o,ah,bb,U,ae,al,bl,bD⟩;obtain ⟨ef,cz,dj⟩:=az o ah ae;exact ⟨o,ef,bb,U,dj,al,bl.sub cz,bD.sub cz⟩
section
variable {P:Program} {N:Nat} {Q:b2→Env→aj→Prop} {env:Env} {s:aj} {L R:a6}
theorem af.Dx {α:Type} {cj:α→ad} {xs:List α} {t:Tmp} {g:Operand} {gd body:Code} {f:FuncId} {first cap:List ad} {lK:a6} (I:Ok s L) (ao:aJ env g=some (.func f first cap)) (aX:t<N)
  (mL:vM P f first cap lK cj xs) (aw:au L lK R) (X4:List α→a6→Prop) (J:Code→a6→Prop) (rq:ad→a6→Prop) (bB:X4 xs R)
  (qN:∀ s x rem K,X4 (x::rem) K→Ok s K→af P N gd (b2.andThen (af P N body (Am (At s (X4 rem)) (fun j=>At s (J j)) (fun v=>At s (rq v)))) (fun _ _ _=>False)) ((t,cj x)::env) (aQ s K))
  (aC:∀ K,X4 [] K→Ok s K→Q .normal env (aQ s K))
  (aS:∀ j K,J j K→Ok s K→af P N j Q env (aQ s K))
  (ab:∀ v K,rq v K→Ok s K→Q (.panic v) env (aQ s K)):af P N (.rangeFunc g #[t] gd body) Q env (aQ s L):=by
 refine af.Hf ao (by intro bG cS;simp at cS;subst cS;exact aX) fun l r aI Dy=>?_
 have Dz:Ok s ((.own l,.loop r env)::L):=⟨aI,I⟩;have nx:HF P cj l (fun rem K=>∃ aL,K=(.own l,.loop r env)::aL∧X4 rem aL) (fun K=>∃ j aL,K=(.own l,.loop (o4 r j) env)::aL∧J j aL) (fun v K=>∃ aL,K=(.own l,.loop (busy r) env)::aL∧rq v aL):=by
  rintro x rem _ ⟨K,rfl,aH⟩ ah xZ;refine (Dy [cj x] _ (At ah (X4 rem)) (fun j=>At ah (J j)) (fun v=>At ah (rq v)) (aj.fu _ _ _) C ?_).less ?_
  ·have:=aj.xo (aQ ah K) l (.loop r env) xZ.1
   show af P N gd _ _ (((aQ ah K).set l (.loop r env)).del l);rw [this];exact qN ah x rem K aH xZ.2
  ·have key:∀ {L K R:a6} {o:db},aQ ah L l=none→Ok ah L→au L K R→aj.Sub (aQ ah ((.own l,o)::K)) ((aQ ah L).set l o)∧Ok ah ((.own l,o)::K):=by
    intro L K R o U ae al;exact (au.cons aP.here al).sub (L:=(.own l,o)::L) ⟨U,ae⟩
   rintro o ef (⟨rfl,dg,U,rfl,L,aL,R,rfl,ae,bl,al⟩|⟨rfl,j,dg,U,rfl,L,aL,R,rfl,ae,bl,al⟩|⟨v,dg,rfl,U,rfl,L,aL,R,rfl,ae,bl,al⟩)
   ·obtain ⟨cz,dj⟩:=key U ae bl (o := .loop r env)
    exact ⟨_,cz,(.own l,.loop r env)::aL,rfl,dj,.inl ⟨rfl,aL,rfl,al⟩⟩
   ·obtain ⟨cz,dj⟩:=key U ae bl (o := .loop (o4 r j) env)
    exact ⟨_,cz,(.own l,.loop (o4 r j) env)::aL,rfl,dj,.inr (.inl ⟨rfl,j,aL,rfl,al⟩)⟩
   ·obtain ⟨cz,dj⟩:=key U ae bl (o := .loop (busy r) env)
    exact ⟨_,cz,(.own l,.loop (busy r) env)::aL,rfl,dj,.inr (.inr ⟨v,rfl,aL,rfl,al⟩)⟩
 have h7:=(mL l _ _ _ nx _ ⟨R,rfl,bB⟩).at Dz ((aw.there (e:=(.own l,.loop r env))).app (au.fh _));refine h7.mono ?_;rintro o ef ⟨M,rfl,hT,aL,rfl,h⟩;rw [List.append_nil] at hT ⊢;rcases h with ⟨rfl,⟨k6,rfl,h⟩|⟨j,k6,rfl,h⟩⟩|⟨v,rfl,k6,rfl,h⟩
 ·exact .inl ⟨aQ s k6,hT.1,rfl,aC k6 h hT.2⟩
 ·exact .inr ⟨j,aQ s k6,hT.1,rfl,aS j k6 h hT.2⟩
 ·exact ⟨aQ s k6,_,hT.1,rfl,ab v k6 h hT.2⟩
end
section
variable {P:Program} {Γ:cg} {N:Nat} {l:List Oper} {Q:b2→Env→aj→Prop} {env:Env} {s:aj} {m d:Nat} {o:Oper} {L K R:a6} {X3:eb→a6→Prop}
theorem bf.b0 (i:Nat) {f:FuncId} {fi:Array Operand} {cP:Array TypeId} {xs:List ad} (az:ed l.toArray m (idxs 0 l)=[i]) (ag:l.toArray[i]? = some o) (ar:o.dst=some d) (aX:Nat.blt d N=true)
  (ao:guardOf l.toArray (bc env (looks l.toArray o)) o=some true) (bW:o.op = .call { callee := .value (.func f),args:=fi,argTypes:=cP }) (aV:fg (bc env (looks l.toArray o)) fi.toList=some xs) (h:bu P f xs K X3) (I:Ok s L) (aw:au L K R)
  (aD:∀ x aL,X3 (.ret x) aL→Ok s (aL++R)→bf P Γ N l.toArray Q (bR (m|||2^i)) ((d,x)::env) (aQ s (aL++R))) (ab:∀ x aL,X3 (.panic x) aL→Ok s (aL++R)→Q (.panic x) [] (aQ s (aL++R))):bf P Γ N l.toArray Q (bR m) env (aQ s L):=
 bm.b0 az ag ar aX ao bW aV h I aw (fun _ _ _ _ => .inl trivial) aD ab
theorem bm.Pd {J:aj→Prop} (i:Nat) (aO:bL P Γ) (dX:J s) {t:TypeId} {x:Operand} {dm:bJ} {b off:Nat} {v:ad} (az:hJ l.toArray m i=true) (ag:l.toArray[i]? = some o) (ar:o.dst=some d) (aX:Nat.blt d N=true)
  (ao:guardOf l.toArray (bc env (looks l.toArray o)) o=some true) (bW:o.op = .load t x) (aK:Γ.get? t=some dm) (ab:aJ (bc env (looks l.toArray o)) x=some (.ptr b off)) (aw:∀ s,J s→∃ T cs,s b=some (.box T cs)∧gI dm cs off=some v)
  (h:bm J P Γ N l.toArray Q (bR (m|||2^i)) ((d,v)::env) s):bm J P Γ N l.toArray Q (bR m) env s:=
 bm.pY dX az ag ar aX ao (fun s gY=>by obtain ⟨T,cs,U,ae⟩:=aw s gY;exact aU.r8 aO bW aK ab U ae) h
end
section
variable {P:Program} {N:Nat} {Q:b2→Env→aj→Prop} {env:Env} {s:aj} {L:a6}
def HG {σ:Type} (s:aj) (E:σ→Env) (K:σ→a6) (X4:σ→Prop) (Q:b2→Env→aj→Prop):b2→Env→aj→Prop
 | .normal,er,ah=>∃ y nu c4,X4 y∧Env.Sub (E y) er∧ah=aQ s nu∧Ok s nu∧au nu (K y) c4
 | e,er,ah=>Q e er ah
theorem HG.mk {σ:Type} {E:σ→Env} {K:σ→a6} {X4:σ→Prop} (y:σ) {c4:a6} (I:Ok s L) (aH:X4 y) (eu:Env.Sub (E y) env) (cX:au L (K y) c4):HG s E K X4 Q .normal env (aQ s L):=⟨y,L,c4,aH,eu,rfl,I,cX⟩
end
section
variable {P:Program} {N:Nat} {ops:Array Oper} {Q:b2→Env→aj→Prop} {env:Env} {s:aj} {l:List Oper} {o:Oper} {d:Nat}
theorem aU.rem {t yt:TypeId} {x y:Operand} {k:IntKind} {a b r:Int} (ag:o.op = .binOp .rem t x y yt) (ab:aJ env x=some (.int k a)) (ay:aJ env y=some (.int k b)) (an:b≠0) (az:a.tmod b=r) :
  aU P N o env s (fun x ah=>x = .int k r∧ah=s) (fun _ _=>False):=by
 refine aU.l2 h6 fun ro B cR w p aF=>?_
 have U:=aF.aJ ab;have ae:=aF.aJ ay;generalize dQ:cR.eval x=dr at U;generalize eO:cR.eval y=fp at ae;cases U;cases ae;refine r9 (v := .int k r) ag ?_ ?_ (.int _ _)
 ·rw [dQ,eO];unfold eqGuard;simp
 ·rw [dQ,eO]
  simp only [binOp,ne_eq,not_true_eq_false,if_false,Op.intDiv,an,az];rfl
theorem aa.rem {t yt:TypeId} {x y:Operand} {k:IntKind} {a b r:Int} (ao:guardOf ops env o=some true) (ar:o.dst=some d) (aX:Nat.blt d N=true) (ag:o.op = .binOp .rem t x y yt) (ab:aJ env x=some (.int k a)) (ay:aJ env y=some (.int k b)) (an:b≠0) (az:a.tmod b=r)
  (h:aa P N ops l Q ((d,.int k r)::env) s):aa P N ops (o::l) Q env s:=
 aa.op ao ar aX (aU.rem ag ab ay an az) (fun x ah ⟨U,ae⟩=>by subst U;subst ae;exact h) (fun _ _ h=>h.elim)
end
end Go.bj
namespace Go.bj
theorem DA {P:Program} {cs:List Frame} (T:List Deferred):∀ (b5:List Nat) (gf:Frame) (w:World),gf.mode ≠ .run→gf.defers=marksOf b5++T →
  (∀ d∈b5,w.heap[d]? = some (.deferred (some [])))→b5.Nodup→Steps P (lone gf cs w) (lone { gf with defers:=T } cs (gp w b5)):=by
 intro b5
 induction b5 with
 | nil=>
  intro gf w _ ar _ _;have:({ gf with defers:=T }:Frame)=gf:=by cases gf;simp_all [marksOf]
  rw [this];exact .refl P _
 | cons d b5 a'=>
  intro gf w hm ar an aC;have lY:w.heap[d]? = some (.deferred (some [])):=an d (List.mem_cons_self ..);have aK:(Instr.takeDeferred d).run P w = .ok [] { w with heap:=w.heap.setIfInBounds d (.deferred none) }:=by
   unfold Instr.takeDeferred;simp only [Sem.run_bind,getObj,setObj,Sem.run,lY,Result.andThen];rfl
  have U:step P (lone gf cs w) = .next (lone { gf with defers:=marksOf b5++T } cs { w with heap:=w.heap.setIfInBounds d (.deferred none) }):=by
   refine step_lone_go ?_;cases tc:gf.mode with
   | run=>exact absurd tc hm
   | returning=>simp [stepG,unwind,tc,ar,marksOf,Sem.runT_eq,aK]
   | panicking chain=>simp [stepG,unwind,tc,ar,marksOf,Sem.runT_eq,aK]
  have eT:=List.nodup_cons.1 aC;refine .head U (a' { gf with defers:=marksOf b5++T } _ hm C ?_ eT.2);intro cM cb;have cB:d≠cM:=fun e=>eT.1 (e ▸ cb)
  simp only [Array.getElem?_setIfInBounds,cB,if_false];exact an cM (List.mem_cons_of_mem _ cb)
def Pe (P:Program) (fn:Func) (R:Ending→World→Prop) (T:List Deferred):fY→Act→World→Prop
 | .normal,a,w | .ret,a,w=>∃ b5,a.defers=marksOf b5++T∧b5.Nodup∧(∀ d∈b5,w.heap[d]? = some (.deferred (some [])))∧Leaves P fn a.tmps R T .returning (gp w b5)
 | .panic da,a,w=>∃ b5,a.defers=marksOf b5++T∧b5.Nodup∧(∀ d∈b5,w.heap[d]? = some (.deferred (some [])))∧Leaves P fn a.tmps R T (.panicking da) (gp w b5)
 | .exit _,_,_=>False
theorem HH {P:Program} {f:FuncId} {fn:Func} {AI eE rest:Code} {args:Array Value} {w:World} {R:Ending→World→Prop} {T:List Deferred}
  (ba:P.funcs[f]? = some fn) (an:fn.body=some (.seq AI (.seq eE rest)))
  (h:AI.wp P (fun e a w=>e = .normal∧eE.wp P (fun e a w=>e = .normal∧∀ b:Frame,b.roundOf=none→b.fn=f→iG P b rest (Pe P fn R T) a w) a w) { tmps:=args++Array.replicate (fn.ntmps-args.size) undef,defers:=[] } w) :
  Calls P f args w R:=by
 intro cs
 let b:Frame:={ (default:Frame) with fn:=f,kind := .normal,roundOf:=none }
 have qM:Frame.enter P f args .normal =
   b.at { tmps:=args++Array.replicate (fn.ntmps-args.size) undef,defers:=[] } [.code (.seq AI (.seq eE rest))]:=by
  simp [Frame.enter,Frame.at,ba,an,b]
 obtain ⟨h0,a0,kA,⟨rfl,U⟩,Pf⟩:=h b [.code (.seq eE rest)] cs;obtain ⟨b8,eJ,dU,⟨rfl,ae⟩,s1⟩:=U b [.code rest] cs;have Pg:Steps P (lone (b.at { tmps:=args++Array.replicate (fn.ntmps-args.size) undef,defers:=[] } [.code AI,.code (.seq eE rest)]) cs w) (lone (b.at a0 [.code (.seq eE rest)]) cs kA):=Pf;have Ph:Steps P (lone (b.at a0 [.code eE,.code rest]) cs kA) (lone (b.at eJ [.code rest]) cs dU):=s1;have nW:Steps P (lone (Frame.enter P f args .normal) cs w) (lone (b.atR eJ [.code rest]) cs dU):=by
  rw [qM,Frame.atR_of_none C];exact .head step_seq (Pg.trans (.head step_seq Ph))
 obtain ⟨e,cR,w',bs,fo⟩:=ae b rfl rfl [] cs;cases e with
 | normal=>
  obtain ⟨b5,ar,aC,jE,eG⟩:=bs;have aw:=Steps.trans (Steps.trans nW fo) (Steps.trans (.one (stepR_end C)) (DA T b5 { b.atR cR [] with mode := .returning } w' bn ar jE aC));obtain ⟨e',kS,x0,dV,gY,et,aI⟩:=leaves_steps T .returning _ { b.atR cR [] with mode := .returning,defers:=T } cs rfl rfl rfl ba rfl eG;exact ⟨e',kS,x0,dV,Comes.of_steps aw gY,et,aI⟩
 | ret=>
  obtain ⟨b5,ar,aC,jE,eG⟩:=bs;obtain ⟨k₁,aw⟩:=fo;have aw:=Steps.trans (Steps.trans nW aw) (Steps.trans (.one (stepR_ret C)) (DA T b5 { b.atR cR (.code .ret::k₁) with mode := .returning } w' bn ar jE aC));obtain ⟨e',kS,x0,dV,gY,et,aI⟩:=leaves_steps T .returning _ { b.atR cR (.code .ret::k₁) with mode := .returning,defers:=T } cs rfl rfl rfl ba rfl eG;exact ⟨e',kS,x0,dV,Comes.of_steps aw gY,et,aI⟩
 | panic da=>
  obtain ⟨b5,ar,aC,jE,eG⟩:=bs;obtain ⟨k₁,aw⟩:=fo;have aw:=Steps.trans (Steps.trans nW aw) (DA T b5 { b.atR cR k₁ with mode := .panicking da } w' bn ar jE aC);obtain ⟨e',kS,x0,dV,gY,et,aI⟩:=leaves_steps T (.panicking da) _ { b.atR cR k₁ with mode := .panicking da,defers:=T } cs rfl rfl rfl ba rfl eG;exact ⟨e',kS,x0,dV,Comes.of_steps aw gY,et,aI⟩
 | exit id=>exact bs.elim
end Go.bj
namespace Go.bj
section
variable {P:Program} {Γ:cg} {N:Nat} {l:List Oper} {Q:b2→Env→aj→Prop} {env:Env} {s:aj} {m d:Nat} {o:Oper} {L K R:a6} {X3:eb→a6→Prop}
theorem bf.ij (i:Nat) (aO:bL P Γ) (I:Ok s L) {t ds ew:TypeId} {x y:Operand} {ok:Bool} {it fN aB:bJ} {mb:Nat} {es:List (ad×ad)} {k z:ad} {r:Option ad} (az:ed l.toArray m (idxs 0 l)=[i]) (ag:l.toArray[i]? = some o) (ar:o.dst=some d) (aX:Nat.blt d N=true)
  (ao:guardOf l.toArray (bc env (looks l.toArray o)) o=some true) (bW:o.op = .lookup t x y ok) (aK:Γ.get? t=some it) (bo:it.bz = .map ds ew) (ie:Γ.get? ds=some fN) (bF:Γ.get? ew=some aB) (ab:aJ (bc env (looks l.toArray o)) x=some (.map mb)) (ay:aJ (bc env (looks l.toArray o)) y=some k) (aw:aP L (.own mb) (.map es) R)
  (ba:iZ fN.bz k=true) (ic:h1 es k=some r) (bE:gy aB.zero=some z) (h:bf P Γ N l.toArray Q (bR (m|||2^i)) ((d,ko ok z r)::env) (aQ s L)):bf P Γ N l.toArray Q (bR m) env (aQ s L):=
 bf.one az ag ar aX ao (aU.ij aO I bW aK bo ie bF ab ay aw ba ic bE (X:=fun _ _=>False)) (fun x ah ⟨U,ae⟩=>by subst U;subst ae;exact h) (fun _ _ h=>h.elim)
theorem bf.fO (i:Nat) {g:Operand} {fv:ad} {fi:Array Operand} {cP:Array TypeId} {xs:List ad} (az:ed l.toArray m (idxs 0 l)=[i]) (ag:l.toArray[i]? = some o) (ar:o.dst=some d) (aX:Nat.blt d N=true)
  (ao:guardOf l.toArray (bc env (looks l.toArray o)) o=some true) (bW:o.op = .call { callee := .value g,args:=fi,argTypes:=cP }) (av:aJ (bc env (looks l.toArray o)) g=some fv) (aV:fg (bc env (looks l.toArray o)) fi.toList=some xs) (h:c2 P fv xs K X3) (I:Ok s L) (aw:au L K R)
  (aD:∀ x aL,X3 (.ret x) aL→Ok s (aL++R)→bf P Γ N l.toArray Q (bR (m|||2^i)) ((d,x)::env) (aQ s (aL++R))) (ab:∀ x aL,X3 (.panic x) aL→Ok s (aL++R)→Q (.panic x) [] (aQ s (aL++R))):bf P Γ N l.toArray Q (bR m) env (aQ s L):=
 bm.fO az ag ar aX ao bW av aV h I aw (fun _ _ _ _ => .inl trivial) aD ab
end
end Go.bj
namespace Go.bj
section
variable {P:Program} {N:Nat} {ops:Array Oper} {Q:b2→Env→aj→Prop} {env:Env} {s:aj} {l:List Oper} {L R:a6}
theorem e8.sl {is:List Nat} (t b:Nat) {n cap:Nat} {T:TypeId} {cs:List ad} (aK:env.get? t=some (dG b n cap)) (aw:s b=some (.box T cs)) (cE:cs.length=cap) (aC:n≤cap) (hm:n≤9223372036854775807) (gz:(cs.take n).all eN=true)
  (h:e8 P N ops is Q ((t,.aA 1 (cs.take n) .bd)::env) (s.del b)):e8 P N ops is Q env s:=by
 intro ro B a w p aF;obtain ⟨bb,gK,hle,aD⟩:=aF.sl aK aw cE aC hm gz;exact e8.after hle aD h gK
theorem aa.sl (I:Ok s L) (t b:Nat) {n cap:Nat} {T:TypeId} {cs:List ad} (aK:env.get? t=some (dG b n cap)) (aw:aP L (.own b) (.box T cs) R) (cE:cs.length=cap) (aC:n≤cap) (hm:n≤9223372036854775807) (gz:(cs.take n).all eN=true)
  (h:Ok s R→aa P N ops l Q ((t,.aA 1 (cs.take n) .bd)::env) (aQ s R)):aa P N ops l Q env (aQ s L):=by
 obtain ⟨U,ae⟩:=aw.del I;intro k aD;refine e8.sl t b aK (aw.get I) cE aC hm gz ?_;rw [U];exact h ae k aD
end
end Go.bj
namespace Go.bj
section
variable {P:Program} {Γ:cg} {N:Nat} {ops:Array Oper} {Q:b2→Env→aj→Prop} {env:Env} {s:aj} {l:List Oper} {o:Oper} {d:Nat} {L R:a6}
theorem aU.e7 (aO:bL P Γ) {t e:TypeId} {x y:Operand} {it aB:bJ} {b n cap:Nat} {k:IntKind} {i:Int} {j:Nat} (ag:o.op = .indexAddr t x y) (aK:Γ.get? t=some it) (bo:it.bz = .aA e) (bF:Γ.get? e=some aB)
  (ab:aJ env x=some (dG b n cap)) (ay:aJ env y=some (.int k i)) (ek:i=(j:Int)) (aS:j<n):aU P N o env s (fun x ah=>x = .ptr b (j*aB.size)∧ah=s) (fun _ _=>False):=by
 refine aU.l2 h6 fun ro B a w p aF=>?_
 obtain ⟨info,d,U,ae,al,-⟩:=aO.parts aK;obtain ⟨iH,jq,cz,dj,ft,ej,-⟩:=aO.parts bF;have ar:d = .slice e:=by rw [bo] at al;cases d<;>simp [dP] at al;rw [al]
 subst ar;have az:=aF.aJ ab;have h3:=aF.aJ ay;generalize dQ:a.eval x=dr at az;generalize eO:a.eval y=fp at h3;cases h3;subst ek;cases az;refine .same (val := .pointer (some ⟨b,j*aB.size,none⟩)) ?_ (.ptr b _);unfold execOp;rw [ag];simp only [dQ,eO];refine fU ?_;have aG:(0:Int)≤(j:Int)∧(j:Int)<(n:Int):=by omega
 simp [Instr.indexAt,asIntOf,run_underlying ae,aG.2,sizeOf,typeInfo,cz,ej,j4];intro bk;omega
theorem DB {w:World} {p:bN} {sz:Nat}:∀ {xss:List (List ad)} {us:List Value},bO w p us xss.flatten→(∀ cs∈xss,cs.length=sz)→∃ vs,bO w p vs (xss.map ad.agg)∧flat vs=us∧∀ v∈vs,v.cells.size=sz
  | [],us,h,_=>by cases h;exact ⟨[],.nil,rfl,by simp⟩
  | cs::r,us,h,aI=>by
    rw [List.flatten_cons] at h;have cE:=aI cs List.mem_cons_self;have U:=h.take cs.length;have ae:=h.drop cs.length;rw [List.take_left] at U;rw [List.drop_left] at ae;obtain ⟨vs,g1,g2,g3⟩:=DB ae fun x ab=>aI x (List.mem_cons_of_mem _ ab)
    refine ⟨.agg (us.take cs.length).toArray::vs,.cons _ _ _ _ (.agg _ _ U) g1,?_,fun v av=>?_⟩
    · have:flat (Value.agg (us.take cs.length).toArray::vs)=us.take cs.length++flat vs:=by simp [flat,Value.cells]
      rw [this,g2,List.take_append_drop]
    · rcases List.mem_cons.1 av with rfl|av
      · have:=U.length
        simp only [Value.cells,List.size_toArray];rw [this,cE]
      · exact g3 v av
theorem bm.e7 {J:aj→Prop} (i:Nat) (aO:bL P Γ) (dX:J s) {m:Nat} {t e:TypeId} {x y:Operand} {it aB:bJ} {b n cap:Nat} {k:IntKind} {z:Int} {j:Nat} (az:hJ l.toArray m i=true) (aY:l.toArray[i]? = some o) (ar:o.dst=some d) (aX:Nat.blt d N=true)
  (ao:guardOf l.toArray (bc env (looks l.toArray o)) o=some true) (ag:o.op = .indexAddr t x y) (aK:Γ.get? t=some it) (bo:it.bz = .aA e) (bF:Γ.get? e=some aB)
  (ab:aJ (bc env (looks l.toArray o)) x=some (dG b n cap)) (ay:aJ (bc env (looks l.toArray o)) y=some (.int k z)) (ek:z=(j:Int)) (aS:j<n)
  (h:bm J P Γ N l.toArray Q (bR (m|||2^i)) ((d,.ptr b (j*aB.size))::env) s):bm J P Γ N l.toArray Q (bR m) env s:=
 bm.pY dX az aY ar aX ao (fun _ _=>aU.e7 aO ag aK bo bF ab ay ek aS) h
end
end Go.bj
namespace Go.bj
section
variable {P:Program} {Γ:cg} {N:Nat} {ops:Array Oper} {Q:b2→Env→aj→Prop} {env:Env} {s:aj} {l:List Oper} {o:Oper} {d:Nat}
theorem aU.sm (aO:bL P Γ) {t e:TypeId} {x:Operand} {it:bJ} {b n cap:Nat} (ag:o.op = .call { callee := .builtin .len,args := #[x],argTypes := #[t] }) (aK:Γ.get? t=some it) (bo:it.bz = .aA e) (ab:aJ env x=some (dG b n cap)) :
  aU P N o env s (fun x ah=>x = .int .i64 n∧ah=s) (fun _ _=>False):=by
 refine aU.l2 h6 fun ro B a w p aF=>?_
 obtain ⟨info,d,U,ae,al,-⟩:=aO.parts aK;have ar:d = .slice e:=by rw [bo] at al;cases d<;>simp [dP] at al;rw [al]
 subst ar;have az:=aF.aJ ab;generalize av:a.eval x=dr at az;cases az;refine .same (val := .int .i64 n) ?_ (.int _ _);unfold execOp;rw [ag];simp [Go.resolve,Go.invoke,Go.builtin,Sem.run_bind,Sem.run_pure,Result.andThen_ok,av,Builtin.len_,run_underlying ae,goInt]
theorem aa.sm (aO:bL P Γ) {t e:TypeId} {x:Operand} {it:bJ} {b n cap:Nat} (ao:guardOf ops env o=some true) (ar:o.dst=some d) (aX:Nat.blt d N=true) (ag:o.op = .call { callee := .builtin .len,args := #[x],argTypes := #[t] }) (aK:Γ.get? t=some it) (bo:it.bz = .aA e) (ab:aJ env x=some (dG b n cap))
  (h:aa P N ops l Q ((d,.int .i64 n)::env) s):aa P N ops (o::l) Q env s:=
 aa.op ao ar aX (aU.sm aO ag aK bo ab) (fun x ah ⟨U,ae⟩=>by subst U;subst ae;exact h) (fun _ _ h=>h.elim)
theorem aU.x1 (aO:bL P Γ) {t e:TypeId} {x y:Operand} {it aB:bJ} {b n cap k:Nat} {o9:IntKind} (ag:o.op = .slice t x none (some y) none) (aK:Γ.get? t=some it) (bo:it.bz = .aA e) (bF:Γ.get? e=some aB) (ab:aJ env x=some (dG b n cap)) (ay:aJ env y=some (.int o9 (k:Int))) (aD:k≤cap) :
  aU P N o env s (fun x ah=>x=dG b k cap∧ah=s) (fun _ _=>False):=by
 refine aU.l2 h6 fun ro B a w p aF=>?_
 obtain ⟨info,d,U,ae,al,-⟩:=aO.parts aK;obtain ⟨iH,jq,cz,dj,ft,ej,-⟩:=aO.parts bF;have ar:d = .slice e:=by rw [bo] at al;cases d<;>simp [dP] at al;rw [al]
 subst ar;have az:=aF.aJ ab;have eV:=aF.aJ ay;generalize dQ:a.eval x=dr at az;generalize eO:a.eval y=fp at eV;cases az;cases eV;refine .same (val := .slice (some ⟨b,0,none⟩) k cap) ?_ (.gx _);unfold execOp;rw [ag];simp only [dQ,Option.map_none,Option.map_some,eO];refine fU ?_;have aC:(0:Int)≤(k:Int):=by omega
 have aE:(k:Int)≤(cap:Int):=by omega
 have an:(Instr.sliceBounds true n cap none (some (.int o9 (k:Int))) none).run P w = .ok (0,k,cap) w:=by
  simp [Instr.sliceBounds,run_sliceBound,aC,aE]
 simp only [Instr.sliceAt,Instr.slice,Sem.run_bind,run_underlying ae,Result.andThen_ok,an,sizeOf,typeInfo,run_program,cz,Sem.run_pure,ej,Nat.sub_zero,Nat.zero_mul];by_cases bB:cap=0
 ·simp [bB]
 ·simp [bB,j4]
theorem aa.x1 (aO:bL P Γ) {t e:TypeId} {x y:Operand} {it aB:bJ} {b n cap:Nat} (k:Nat) {o9:IntKind} (ao:guardOf ops env o=some true) (ar:o.dst=some d) (aX:Nat.blt d N=true) (ag:o.op = .slice t x none (some y) none) (aK:Γ.get? t=some it) (bo:it.bz = .aA e) (bF:Γ.get? e=some aB)
  (ab:aJ env x=some (dG b n cap)) (ay:aJ env y=some (.int o9 (k:Int))) (aD:k≤cap) (h:aa P N ops l Q ((d,dG b k cap)::env) s):aa P N ops (o::l) Q env s:=
 aa.op ao ar aX (aU.x1 aO ag aK bo bF ab ay aD) (fun x ah ⟨U,ae⟩=>by subst U;subst ae;exact h) (fun _ _ h=>h.elim)
theorem aa.e7 (aO:bL P Γ) {t e:TypeId} {x y:Operand} {it aB:bJ} {b n cap:Nat} {k:IntKind} {i:Int} (j:Nat) (ao:guardOf ops env o=some true) (ar:o.dst=some d) (aX:Nat.blt d N=true) (ag:o.op = .indexAddr t x y) (aK:Γ.get? t=some it) (bo:it.bz = .aA e) (bF:Γ.get? e=some aB)
  (ab:aJ env x=some (dG b n cap)) (ay:aJ env y=some (.int k i)) (ek:i=(j:Int)) (aS:j<n) (h:aa P N ops l Q ((d,.ptr b (j*aB.size))::env) s):aa P N ops (o::l) Q env s:=
 aa.op ao ar aX (aU.e7 aO ag aK bo bF ab ay ek aS) (fun x ah ⟨U,ae⟩=>by subst U;subst ae;exact h) (fun _ _ h=>h.elim)
end
end Go.bj
namespace Go.bj
theorem Pj {m n:Nat} (hm:m<2^64) (aC:n<2^64):m|||n<2^64:=Nat.or_lt_two_pow hm aC
theorem HI {m n:Nat} (hm:m<2^64):m &&& n<2^64:=Nat.lt_of_le_of_lt Nat.and_le_left hm
def mM (m n:Nat):Nat:=m &&& (18446744073709551615 ^^^ n)
theorem p4 (m:Nat):BitVec.ofInt 64 (m:Int)=BitVec.ofNat 64 m:=by
 apply BitVec.eq_of_toNat_eq;rw [BitVec.toNat_ofInt,BitVec.toNat_ofNat];omega
theorem wrap64 {m:Nat} (h:m<2^64):IntKind.wrap .u64 (m:Int)=(m:Int):=by
 unfold IntKind.wrap;simp [IntKind.bits,IntKind.signed];omega
section
variable {P:Program} {N:Nat} {ops:Array Oper} {Q:b2→Env→aj→Prop} {env:Env} {s:aj} {l:List Oper} {o:Oper} {d:Nat}
theorem aU.shl {t yt:TypeId} {x y:Operand} {k k':IntKind} {a b r:Int} (ag:o.op = .binOp .shl t x y yt) (ab:aJ env x=some (.int k a)) (ay:aJ env y=some (.int k' b)) (an:0≤b) (az:k.wrap (a*2^(min b.toNat k.bits))=r) :
  aU P N o env s (fun x ah=>x = .int k r∧ah=s) (fun _ _=>False):=by
 refine aU.l2 h6 fun ro B cR w p aF=>?_
 have U:=aF.aJ ab;have ae:=aF.aJ ay;generalize dQ:cR.eval x=dr at U;generalize eO:cR.eval y=fp at ae;cases U;cases ae;refine r9 (v := .int k r) ag ?_ ?_ (.int _ _)
 ·rw [dQ,eO];unfold eqGuard;simp
 ·rw [dQ,eO]
  have dz:¬ b<0:=by omega
  simp only [binOp,Op.shift,dz,if_false,az];rfl
theorem aU.shr {t yt:TypeId} {x y:Operand} {k k':IntKind} {a b r:Int} (ag:o.op = .binOp .shr t x y yt) (ab:aJ env x=some (.int k a)) (ay:aJ env y=some (.int k' b)) (an:0≤b) (az:a.fdiv (2^(min b.toNat k.bits))=r) :
  aU P N o env s (fun x ah=>x = .int k r∧ah=s) (fun _ _=>False):=by
 refine aU.l2 h6 fun ro B cR w p aF=>?_
 have U:=aF.aJ ab;have ae:=aF.aJ ay;generalize dQ:cR.eval x=dr at U;generalize eO:cR.eval y=fp at ae;cases U;cases ae;refine r9 (v := .int k r) ag ?_ ?_ (.int _ _)
 ·rw [dQ,eO];unfold eqGuard;simp
 ·rw [dQ,eO]
  have dz:¬ b<0:=by omega
  simp only [binOp,Op.shift,dz,if_false,az];rfl
def bitsOf (op:BinOp) (k:IntKind) (a b:Int):Option Int:=match op with
 | .and=>some (k.wrap (BitVec.ofInt k.bits a &&& BitVec.ofInt k.bits b).toNat)
 | .or=>some (k.wrap (BitVec.ofInt k.bits a|||BitVec.ofInt k.bits b).toNat)
 | .xor=>some (k.wrap (BitVec.ofInt k.bits a ^^^ BitVec.ofInt k.bits b).toNat)
 | .andNot=>some (k.wrap (BitVec.ofInt k.bits a &&& ~~~(BitVec.ofInt k.bits b)).toNat)
 | _=>none
theorem aU.bits {op:BinOp} {t yt:TypeId} {x y:Operand} {k:IntKind} {a b r:Int} (ag:o.op = .binOp op t x y yt) (ab:aJ env x=some (.int k a)) (ay:aJ env y=some (.int k b)) (az:bitsOf op k a b=some r) :
  aU P N o env s (fun x ah=>x = .int k r∧ah=s) (fun _ _=>False):=by
 refine aU.l2 h6 fun ro B cR w p aF=>?_
 have U:=aF.aJ ab;have ae:=aF.aJ ay;generalize dQ:cR.eval x=dr at U;generalize eO:cR.eval y=fp at ae;cases U;cases ae;refine r9 (v := .int k r) ag ?_ ?_ (.int _ _)
 ·rw [dQ,eO];unfold eqGuard;cases op<;>first|rfl|(cases az;done)
 ·rw [dQ,eO]
  cases op<;>simp only [bitsOf] at az<;>first|(cases az;done)|(cases az;simp only [binOp,ne_eq,not_true_eq_false,if_false,Op.intBits];rfl)
theorem aa.shl {t yt:TypeId} {x y:Operand} {k k':IntKind} {a b:Int} (r:Int) (ao:guardOf ops env o=some true) (ar:o.dst=some d) (aX:Nat.blt d N=true) (ag:o.op = .binOp .shl t x y yt) (ab:aJ env x=some (.int k a)) (ay:aJ env y=some (.int k' b)) (an:0≤b) (az:k.wrap (a*2^(min b.toNat k.bits))=r)
  (h:aa P N ops l Q ((d,.int k r)::env) s):aa P N ops (o::l) Q env s:=
 aa.op ao ar aX (aU.shl ag ab ay an az) (fun x ah ⟨U,ae⟩=>by subst U;subst ae;exact h) (fun _ _ h=>h.elim)
theorem aa.shr {t yt:TypeId} {x y:Operand} {k k':IntKind} {a b:Int} (r:Int) (ao:guardOf ops env o=some true) (ar:o.dst=some d) (aX:Nat.blt d N=true) (ag:o.op = .binOp .shr t x y yt) (ab:aJ env x=some (.int k a)) (ay:aJ env y=some (.int k' b)) (an:0≤b) (az:a.fdiv (2^(min b.toNat k.bits))=r)
  (h:aa P N ops l Q ((d,.int k r)::env) s):aa P N ops (o::l) Q env s:=
 aa.op ao ar aX (aU.shr ag ab ay an az) (fun x ah ⟨U,ae⟩=>by subst U;subst ae;exact h) (fun _ _ h=>h.elim)
theorem aa.bits {op:BinOp} {t yt:TypeId} {x y:Operand} {k:IntKind} {a b:Int} (r:Int) (ao:guardOf ops env o=some true) (ar:o.dst=some d) (aX:Nat.blt d N=true) (ag:o.op = .binOp op t x y yt) (ab:aJ env x=some (.int k a)) (ay:aJ env y=some (.int k b)) (az:bitsOf op k a b=some r)
  (h:aa P N ops l Q ((d,.int k r)::env) s):aa P N ops (o::l) Q env s:=
 aa.op ao ar aX (aU.bits ag ab ay az) (fun x ah ⟨U,ae⟩=>by subst U;subst ae;exact h) (fun _ _ h=>h.elim)
end
theorem uf {m n:Nat} (hm:m<2^64) (aC:n<2^64):bitsOf .or .u64 (m:Int) (n:Int)=some ((m|||n:Nat):Int):=by
 show some (IntKind.wrap .u64 ((BitVec.ofInt 64 (m:Int)|||BitVec.ofInt 64 (n:Int)).toNat:Int))=_;rw [p4,p4,BitVec.toNat_or,BitVec.toNat_ofNat,BitVec.toNat_ofNat,Nat.mod_eq_of_lt hm,Nat.mod_eq_of_lt aC,wrap64 (Pj hm aC)]
theorem sn {m n:Nat} (hm:m<2^64) (aC:n<2^64):bitsOf .and .u64 (m:Int) (n:Int)=some ((m &&& n:Nat):Int):=by
 show some (IntKind.wrap .u64 ((BitVec.ofInt 64 (m:Int) &&& BitVec.ofInt 64 (n:Int)).toNat:Int))=_;rw [p4,p4,BitVec.toNat_and,BitVec.toNat_ofNat,BitVec.toNat_ofNat,Nat.mod_eq_of_lt hm,Nat.mod_eq_of_lt aC,wrap64 (HI hm)]
theorem DC {m:Nat} (h:m<2^63):IntKind.wrap .i64 (m:Int)=(m:Int):=by
 unfold IntKind.wrap;simp [IntKind.bits,IntKind.signed];omega
theorem Pk {m n:Nat} (hm:m<2^63) (aC:n<2^63):bitsOf .or .i64 (m:Int) (n:Int)=some ((m|||n:Nat):Int):=by
 show some (IntKind.wrap .i64 ((BitVec.ofInt 64 (m:Int)|||BitVec.ofInt 64 (n:Int)).toNat:Int))=_;rw [p4,p4,BitVec.toNat_or,BitVec.toNat_ofNat,BitVec.toNat_ofNat,Nat.mod_eq_of_lt ai,Nat.mod_eq_of_lt ai,DC (Nat.or_lt_two_pow hm aC)]
theorem AJ {m n:Nat} (hm:m<2^63) (aC:n<2^63):bitsOf .and .i64 (m:Int) (n:Int)=some ((m &&& n:Nat):Int):=by
 show some (IntKind.wrap .i64 ((BitVec.ofInt 64 (m:Int) &&& BitVec.ofInt 64 (n:Int)).toNat:Int))=_;rw [p4,p4,BitVec.toNat_and,BitVec.toNat_ofNat,BitVec.toNat_ofNat,Nat.mod_eq_of_lt ai,Nat.mod_eq_of_lt ai,DC (Nat.lt_of_le_of_lt Nat.and_le_left hm)]
theorem AK {m n:Nat} (hm:m<2^64) (aC:n<2^64):bitsOf .andNot .u64 (m:Int) (n:Int)=some ((mM m n:Nat):Int):=by
 show some (IntKind.wrap .u64 ((BitVec.ofInt 64 (m:Int) &&& ~~~(BitVec.ofInt 64 (n:Int))).toNat:Int))=_;rw [p4,p4];unfold mM;have h:(BitVec.ofNat 64 m &&& ~~~(BitVec.ofNat 64 n)).toNat=m &&& (18446744073709551615 ^^^ n):=by
  rw [BitVec.toNat_and,BitVec.toNat_not,BitVec.toNat_ofNat,BitVec.toNat_ofNat,Nat.mod_eq_of_lt hm,Nat.mod_eq_of_lt aC];apply Nat.eq_of_testBit_eq;intro i;rw [Nat.testBit_and,Nat.testBit_and,Nat.testBit_xor];have ae:2^64-1-n=2^64-(n+1):=by omega
  rw [ae,Nat.testBit_two_pow_sub_succ aC,show (18446744073709551615:Nat)=2^64-1 from rfl,Nat.testBit_two_pow_sub_one];by_cases aY:i<64
  ·simp [aY]
  ·have:m.testBit i=false:=Nat.testBit_lt_two_pow (Nat.lt_of_lt_of_le hm (Nat.pow_le_pow_right ai ai))
   simp [this]
 rw [h,wrap64 (HI hm)]
theorem AL {c:Nat} (h:c<64):IntKind.wrap .u64 (1*2^(min (c:Int).toNat (IntKind.bits .u64)))=((2^c:Nat):Int):=by
 have U:min (c:Int).toNat (IntKind.bits .u64)=c:=by simp [IntKind.bits];omega
 rw [U];have ae:(1*2^c:Int)=((2^c:Nat):Int):=by push_cast;omega
 rw [ae,wrap64 (Nat.pow_lt_pow_right ai h)]
theorem so {m c:Nat} (h:c<64):Int.fdiv (m:Int) (2^(min (c:Int).toNat (IntKind.bits .u64)))=((m >>> c:Nat):Int):=by
 have U:min (c:Int).toNat (IntKind.bits .u64)=c:=by simp [IntKind.bits];omega
 rw [U,Nat.shiftRight_eq_div_pow];have ae:(2^c:Int)=((2^c:Nat):Int):=by push_cast;rfl
 rw [ae,Int.fdiv_eq_ediv_of_nonneg _ (Int.natCast_nonneg _)];rfl
theorem af.cT {P:Program} {N:Nat} {Q:b2→Env→aj→Prop} {env:Env} {s:aj} {L:a6} {σ:Type} {c:Code} (fz:List Nat) {x2:Env} (aD:tV fz env []=(x2,())) (I:Ok s L) (da:σ→Env) (K:σ→a6) (X4:σ→Prop) (μ:σ→Nat) (mA:σ) {Df:a6} (aH:X4 mA) (eu:Env.Sub (da mA) env) (cX:au L (K mA) Df)
  (round:∀ x,X4 x→Ok s (K x)→af P N c (b2.andThen (bX s (fun z=>da z++x2) K X4 (fun y=>μ y<μ x)) Q) (da x++x2) (aQ s (K x))):af P N (.loop c) Q env (aQ s L):=
 af.vK I (fun z=>da z++x2) K X4 μ mA aH (eu.append (xP fz [] x2 trivial aD)) cX round
section
variable {P:Program} {Γ:cg} {N:Nat} {ops:Array Oper} {Q:b2→Env→aj→Prop} {env:Env} {s:aj} {l:List Oper} {o:Oper} {d:Nat}
theorem aU.arr (aO:bL P Γ) {t e:TypeId} {x y:Operand} {it aB:bJ} {k:IntKind} {len b off j:Nat} {i:Int} (ag:o.op = .indexAddr t x y) (aK:Γ.get? t=some it) (bo:it.bz = .arr len e) (bF:Γ.get? e=some aB) (ab:aJ env x=some (.ptr b off)) (ay:aJ env y=some (.int k i)) (ek:i=(j:Int)) (aS:j<len) :
  aU P N o env s (fun x ah=>x = .ptr b (off+j*aB.size)∧ah=s) (fun _ _=>False):=by
 obtain ⟨info,ug,U,ae,al,-⟩:=aO.parts aK;obtain ⟨iH,jq,cz,dj,ft,ej,-⟩:=aO.parts bF;obtain rfl:=xg (al.trans bo);refine aU.l2 h6 fun ro B a w p aF=>?_
 have U:=aF.aJ ab;have nc:=aF.aJ ay;generalize dQ:a.eval x=dr at U;generalize eO:a.eval y=fp at nc;cases U;cases nc;subst ek;refine .same (val := .pointer (some ⟨b,off+j*aB.size,none⟩)) ?_ (.ptr b _);unfold execOp;rw [ag];simp only [dQ,eO];refine fU ?_;simp [Instr.indexAt,asIntOf,run_underlying ae,aS,sizeOf,typeInfo,cz,ej,j4,Instr.sureAddr]
theorem aU.kB (aO:bL P Γ) {t e:TypeId} {x y:Operand} {it aB:bJ} {k:IntKind} {len off j:Nat} {cs:List ad} {i:Int} (ag:o.op = .indexAddr t x y) (aK:Γ.get? t=some it) (bo:it.bz = .arr len e) (bF:Γ.get? e=some aB) (ab:aJ env x=some (.bq cs off)) (ay:aJ env y=some (.int k i)) (ek:i=(j:Int)) (aS:j<len) :
  aU P N o env s (fun x ah=>x = .bq cs (off+j*aB.size)∧ah=s) (fun _ _=>False):=by
 obtain ⟨info,ug,U,ae,al,-⟩:=aO.parts aK;obtain ⟨iH,jq,cz,dj,ft,ej,-⟩:=aO.parts bF;obtain rfl:=xg (al.trans bo);refine aU.l2 h6 fun ro B a w p aF=>?_
 have U:=aF.aJ ab;have nc:=aF.aJ ay;generalize dQ:a.eval x=dr at U;generalize eO:a.eval y=fp at nc;cases nc;subst ek;cases U with
 | bq b base o' _ vs _ ck aE az=>
 refine .same (val := .pointer (some ⟨b,o'+j*aB.size,none⟩)) ?_ (.bq b base _ _ vs cs ai aE az);unfold execOp;rw [ag];simp only [dQ,eO];refine fU ?_;simp [Instr.indexAt,asIntOf,run_underlying ae,aS,sizeOf,typeInfo,cz,ej,j4,Instr.sureAddr]
theorem aa.arr (aO:bL P Γ) {t e:TypeId} {x y:Operand} {it aB:bJ} {k:IntKind} {len b off:Nat} {i:Int} (j:Nat) (ao:guardOf ops env o=some true) (ar:o.dst=some d) (aX:Nat.blt d N=true) (ag:o.op = .indexAddr t x y) (aK:Γ.get? t=some it) (bo:it.bz = .arr len e) (bF:Γ.get? e=some aB) (ab:aJ env x=some (.ptr b off)) (ay:aJ env y=some (.int k i)) (ek:i=(j:Int)) (aS:j<len)
  (h:aa P N ops l Q ((d,.ptr b (off+j*aB.size))::env) s):aa P N ops (o::l) Q env s:=
 aa.op ao ar aX (aU.arr aO ag aK bo bF ab ay ek aS) (fun x ah ⟨U,ae⟩=>by subst U;subst ae;exact h) (fun _ _ h=>h.elim)
theorem aa.kB (aO:bL P Γ) {t e:TypeId} {x y:Operand} {it aB:bJ} {k:IntKind} {len off:Nat} {cs:List ad} {i:Int} (j:Nat) (ao:guardOf ops env o=some true) (ar:o.dst=some d) (aX:Nat.blt d N=true) (ag:o.op = .indexAddr t x y) (aK:Γ.get? t=some it) (bo:it.bz = .arr len e) (bF:Γ.get? e=some aB) (ab:aJ env x=some (.bq cs off)) (ay:aJ env y=some (.int k i)) (ek:i=(j:Int)) (aS:j<len)
  (h:aa P N ops l Q ((d,.bq cs (off+j*aB.size))::env) s):aa P N ops (o::l) Q env s:=
 aa.op ao ar aX (aU.kB aO ag aK bo bF ab ay ek aS) (fun x ah ⟨U,ae⟩=>by subst U;subst ae;exact h) (fun _ _ h=>h.elim)
end
end Go.bj
namespace Go.bY
def ny (first i:Int):List Int→List Int→Bool
 | _,[]=>true
 | seen,c::r=>decide (c≥first)&&(decide (c<first+i)&&(!seen.contains c&&ny first i (seen++[c]) r))
def p5:Nat→List (List Int)→Bool
 | _,[]=>true
 | i,l::r=>decide (l.length≤3)&&(ny 3 i [] l&&p5 (i+1) r)
def oa (g:List (List Int)):Bool:=decide (g.length≤16)&&p5 0 g
def hU (n:Int) (l:List Int):List Int:=l.filter fun x=>x != n
def free (all:List (List Int)) (c:Int):Bool:=all.all fun l => !(l.drop 1).contains c
def pick (all:List (List Int)):List (List Int)→Option Int
 | []=>none
 | []::r=>pick all r
 | (c::_)::r=>if free all c then some c else pick all r
def total (all:List (List Int)):Nat:=(all.map List.length).sum
def merge:Nat→List (List Int)→List Int→List Int×Bool
  | 0,_,acc=>(acc,false)
  | k+1,all,acc=>match pick all all with
    | none=>(acc,all.all List.isEmpty)
    | some c=>merge k (all.map (hU c)) (acc++[c])
def merged (all:List (List Int)):List Int×Bool:=merge (total all+1) all []
def parents (g:List (List Int)) (c:Nat):List Int:=if c<3 then [] else g.getD (c-3) []
def iP (gj:List (List Int)):List Int→Option (List (List Int))
 | []=>some []
 | p::r=>if (gj.getD p.toNat []).isEmpty then none else (iP gj r).map fun l=>hU 0 (gj.getD p.toNat [])::l
def lists (g:List (List Int)) (gj:List (List Int)) (c:Nat):Option (List (List Int)):=(iP gj (parents g c)).map fun l=>l++[parents g c]
def order (g:List (List Int)) (gj:List (List Int)) (c:Nat):List Int:=match lists g gj c with
 | none=>[]
 | some all=>if (merged all).2 then (c:Int)::(merged all).1++[0] else []
def gj (g:List (List Int)):Nat→List (List Int)
 | 0=>[[0]]
 | k+1=>gj g k++[order g (gj g k) (k+1)]
theorem x3 (g:List (List Int)):∀ k,(gj g k).length=k+1
 | 0=>rfl
 | k+1=>by rw [gj,List.length_append,x3 g k];rfl
theorem x4 (n:Int) (l:List Int):(hU n l).length≤l.length:=List.length_filter_le ..
theorem Pl (n:Int) (l:List Int):hU n (n::l)=hU n l:=by unfold hU;simp
theorem Pm (n:Int) (all:List (List Int)):total (all.map (hU n))≤total all:=by
 unfold total
 induction all with
 | nil=>exact Nat.le_refl _
 | cons l r a'=>
  have:=x4 n l;simp only [List.map_cons,List.sum_cons] at a' ⊢;omega
theorem HJ {n:Int} {all:List (List Int)} (h:∃ t,n::t∈all):total (all.map (hU n))<total all:=by
 obtain ⟨t,h⟩:=h
 induction all with
 | nil=>cases h
 | cons l r a'=>
  have bB:total (l::r)=l.length+total r:=rfl;have U:total ((l::r).map (hU n))=(hU n l).length+total (r.map (hU n)):=rfl;rw [bB,U];rcases List.mem_cons.1 h with rfl|h
  ·have ae:=x4 n t
   have al:=Pm n r;rw [Pl,List.length_cons];omega
  ·have:=a' h
   have:=x4 n l;omega
theorem vN {all:List (List Int)} {c:Int}:∀ {l:List (List Int)},pick all l=some c→∃ t,c::t∈l
  | [],h=>by cases h
  | []::r,h=>by
    obtain ⟨t,h⟩:=vN (l:=r) h;exact ⟨t,List.mem_cons_of_mem _ h⟩
  | (d::q)::r,h=>by
    rw [pick] at h;split at h
    · cases h;exact ⟨q,List.mem_cons_self⟩
    · obtain ⟨t,h⟩:=vN (l:=r) h
      exact ⟨t,List.mem_cons_of_mem _ h⟩
end Go.bY
namespace Go.bY
structure bC where
 atom:Int
 no:Int
 yes:Int
 ms:List Int
 deriving DecidableEq,Inhabited
def pa:List Int→Bool
 | []=>true
 | [x]=>decide (x≥0)
 | x::y::r=>decide (x≥0)&&(decide (x<y)&&pa (y::r))
def hx (len i:Nat) (x:bC):Bool:=
 if x.atom = -1 then decide (x.no=0)&&(decide (x.yes=0)&&(decide (x.ms.length≤16)&&pa x.ms))
 else decide (x.atom≥0)&&(decide (x.atom<7)&&(decide (x.no>i)&&(decide (x.no<len)&&(decide (x.yes>i)&&(decide (x.yes<len)&&x.ms.isEmpty)))))
def nz (len:Nat):Nat→List bC→Bool
 | _,[]=>true
 | i,x::r=>hx len i x&&nz len (i+1) r
def fP (g:List bC):Bool:=decide (1≤g.length)&&(decide (g.length≤300)&&nz g.length 0 g)
def fc:Nat→List bC→List Int
 | _,[]=>[]
 | i,x::r=>
  let h:=fc (i+1) r
  (if x.atom≥0 then 1+max (h.getD (x.no.toNat-(i+1)) 0) (h.getD (x.yes.toNat-(i+1)) 0) else 0)::h
def iD (g:List bC):Int:=(fc 0 g).getD 0 0
def k7 {α:Type} (f:Nat→α→Bool):Nat→List α→Option Nat
  | _,[]=>none
  | k,x::r=>match k7 f (k+1) r with
    | some j=>some j
    | none=>if f k x then some k else none
def b4:Nat→List bC→List Int×List bC
 | _,[]=>([],[])
 | i,x::r=>
  let p:=b4 (i+1) r
  let y:bC:=if x.atom≥0 then { x with no:=p.1.getD (x.no.toNat-(i+1)) 0,yes:=p.1.getD (x.yes.toNat-(i+1)) 0 } else x
  let k:Int:=match k7 (fun k z=>p.1.getD k 0==((i+1+k:Nat):Int)&&z==y) 0 p.2 with
   | some k=>((i+1+k:Nat):Int)
   | none=>(i:Int)
  (k::p.1,y::p.2)
def meet (g:List bC):Nat→List Int→Int→List Int
 | 0,order,_=>order
 | k+1,order,eo=>
  if order.contains eo then order
  else
   let x:=g.getD eo.toNat default
   (if x.atom≥0 then meet g k (meet g k order x.yes) x.no else order)++[eo]
def placeOf (l:List Int) (n:Int):Int:=((l.findIdx? (· == n)).getD 0:Nat)
def small (g:List bC):List bC:=
 let p:=b4 0 g
 let order:=meet p.2 (g.length+1) [] (p.1.getD 0 0)
 order.reverse.map fun eo=>
  let x:=p.2.getD eo.toNat default
  if x.atom≥0 then { x with no:=(order.length:Int)-1-placeOf order x.no,yes:=(order.length:Int)-1-placeOf order x.yes } else x
end Go.bY
namespace Go.Proofs.YtnafpeohfbglmaaGreat
open Go.bj Go.bY
def bt:Nat:=1099511627776
theorem bQ:bt=1099511627776:=rfl
theorem cD {α:Type} {f:α→ad} {l:List α} {j:Nat} (h:j<l.length):∃ x,l[j]? = some x∧(l.map f)[j]? = some (f x):=
 ⟨l[j],List.getElem?_eq_getElem h,by simp [h]⟩
theorem drop_cons {α:Type} {l:List α} {j:Nat} {x:α} (h:l[j]? = some x):l.drop j=x::l.drop (j+1):=by
 obtain ⟨U,ae⟩:=List.getElem?_eq_some_iff.1 h;rw [List.drop_eq_getElem_cons U,ae]
theorem fC {α:Type} {l:List α} {j:Nat} (h:l.length≤j):l.drop j=[]:=List.drop_eq_nil_of_le h
theorem mi {α:Type} {l:List α} {j:Nat} {x:α} (h:l[j]? = some x):l.take (j+1)=l.take j++[x]:=by
 rw [List.take_add_one,h];rfl
theorem sq {α:Type} {l:List α} {j:Nat} {x:α} (h:l[j]? = some x):j<l.length:=(List.getElem?_eq_some_iff.1 h).1
def bg (n:Int):ad := .int .i64 n
def bI (l:List Int):ad := .aA 1 (l.map bg) .bd
def gb (g:List (List Int)):ad := .aA 1 (g.map bI) .bd
theorem HK (l:List Int) (n:Int) (aI:l.length<bt):a7 Tryz.prog 92 [bI l,.int .i64 n] (.int .i64 (match l.findIdx? (· == n) with
  | some i=>(i:Int)
  | none => -1)):=by
 have an:=bQ;refine a7.bp ak call92 Tryz.func92 C C fun s I=>?_
 unfold bI;refine iO ?_;refine af.cT [0,1,7] C I (σ:=Nat) (fun j=>[(8,.int .i64 (j:Int))]) (fun _=>[]) (fun j=>j≤l.length∧∀ i,i<j→l[i]? ≠ some n) (fun j=>l.length-j) 0 ⟨Nat.zero_le _,fun i aY=>absurd aY (Nat.not_lt_zero _)⟩ (c3 C) bM ?_;rintro j ⟨aS,aH⟩ I;refine cL ?_;refine af.cond C (fun aG=>?_) (fun bk=>?_);rotate_left;have bk:j=l.length:=by
  have:l.length≤j:=by simpa using bk
  omega
 ·have ab:l.findIdx? (· == n)=none:=by
   rw [List.findIdx?_eq_none_iff];intro z bE;obtain ⟨i,aY⟩:=List.getElem?_of_mem bE;have U:=sq aY;have ae:=aH i ai;simp only [beq_eq_false_iff_ne];intro e;subst e;exact ae aY
  rw [ab];refine fJ ?_;exact bA I
 have aG:j<l.length:=by simpa using aG
 obtain ⟨y,ay,ey⟩:=cD (f:=bg) aG;unfold bg at ey;refine bP ?_;refine af.cond C (fun aC=>?_) (fun aC=>?_)
 ·have aC:n=y:=by simpa using aC
  subst aC;have ab:l.findIdx? (· == n)=some j:=by
   rw [List.findIdx?_eq_some_iff_getElem];refine ⟨aG,by simpa using (List.getElem?_eq_some_iff.1 ay).2,fun i aY=>?_⟩;have:=aH i aY;rw [List.getElem?_eq_getElem ai] at this;simpa using this
  rw [ab];refine mh ?_;exact bA I
 ·have aC:n≠y:=by simpa using aC
  refine gi ?_;refine bX.mk (j+1) I ⟨aG,?_⟩ c7 bM (by show l.length-(j+1)<l.length-j;omega);intro i aY;rcases Nat.lt_succ_iff_lt_or_eq.1 aY with aY|rfl
  ·exact aH i aY
  ·rw [ay];intro e;cases e;exact aC C
theorem HL (l:List Int) (n:Int):decide ((match l.findIdx? (· == n) with
  | some i=>(i:Int)
  | none => -1)≥0)=l.contains n:=by
 cases h:l.findIdx? (· == n) with
 | none=>
  rw [List.findIdx?_eq_none_iff] at h;have:n∉l:=fun aC=>by have:=h n aC;simp at this
  simp [this]
 | some i=>
  rw [List.findIdx?_eq_some_iff_getElem] at h;obtain ⟨aY,U,_⟩:=h;have e:l[i]=n:=by simpa using U
  have:n∈l:=by rw [← e];exact List.getElem_mem aY
  simp [this]
theorem vO (l:List Int) (n:Int) (aI:l.length<bt):a7 Tryz.prog 43 [bI l,.int .i64 n] (.bool (l.contains n)):=by
 rw [← HL];refine a7.bp ak call43 Tryz.func43 C C fun s I=>?_
 refine dF ?_;refine aa.eB C C C C C (HK l n aI) ?_;refine dO ?_;exact bA I
theorem sr (a b:List Int) (aI:a.length<bt) (vP:b.length<bt):a7 Tryz.prog 37 [bI a,bI b] (.bool (a==b)):=by
 have an:=bQ;refine a7.bp ak call37 Tryz.func37 C C fun s I=>?_
 unfold bI;refine cL ?_;refine af.cond C (fun h=>?_) (fun h=>?_)
 ·have cB:(a==b)=false:=by
   rw [beq_eq_false_iff_ne];intro e;simp [e] at h
  rw [cB];refine j' ?_;exact bA I
 ·have ev:a.length=b.length:=by simp at h;omega
  refine lH ?_;refine af.cT [0,1,12] C I (σ:=Nat) (fun j=>[(13,.int .i64 (j:Int))]) (fun _=>[]) (fun j=>j≤a.length∧(a==b)=(a.drop j==b.drop j)) (fun j=>a.length-j) 0 ⟨Nat.zero_le _,rfl⟩ (c3 C) bM ?_;rintro j ⟨aS,aH⟩ I;refine cL ?_;refine af.cond C (fun aG=>?_) (fun bk=>?_);rotate_left;have bk:j=a.length:=by
   have:a.length≤j:=by simpa using bk
   omega
  ·rw [fC ai,fC ai] at aH
   rw [aH];refine fJ ?_;exact bA I
  have aG:j<a.length:=by simpa using aG
  obtain ⟨x,ab,ch⟩:=cD (f:=bg) aG;obtain ⟨y,ay,ey⟩:=cD (f:=bg) (by omega:j<b.length);rw [drop_cons ab,drop_cons ay,List.cons_beq_cons] at aH;refine lH ?_;refine af.re ak mixed C (bf.run C ?_);refine bf.idx 2 j C C C C C C C C C C C C C ch C ?_;refine bf.idx 6 j C C C C C C C C C C C C C ey C ?_;refine bf.run C (bf.done C ?_);refine af.cond C (fun aC=>?_) (fun aC=>?_)
  ·have aC:x≠y:=by simpa using aC
   rw [aH,beq_false_of_ne aC];refine mh ?_;exact bA I
  ·have aC:x=y:=by simpa using aC
   subst aC;rw [beq_self_eq_true,Bool.true_and] at aH;refine gi ?_;refine bX.mk (j+1) I ⟨aG,aH⟩ c7 bM xT
theorem x5 (a b:List Int) (aI:a.length<bt) (vP:b.length<bt):a7 Tryz.prog 24 [bI a,bI b] (.bool (a==b)):=by
 have an:=bQ;refine a7.bp ak call24 Tryz.func24 C C fun s I=>?_
 unfold bI;refine cL ?_;refine af.cond C (fun h=>?_) (fun h=>?_)
 ·have cB:(a==b)=false:=by
   rw [beq_eq_false_iff_ne];intro e;simp [e] at h
  rw [cB];refine j' ?_;exact bA I
 ·have ev:a.length=b.length:=by simp at h;omega
  refine lH ?_;refine af.cT [0,1,12] C I (σ:=Nat) (fun j=>[(13,.int .i64 (j:Int))]) (fun _=>[]) (fun j=>j≤a.length∧(a==b)=(a.drop j==b.drop j)) (fun j=>a.length-j) 0 ⟨Nat.zero_le _,rfl⟩ (c3 C) bM ?_;rintro j ⟨aS,aH⟩ I;refine cL ?_;refine af.cond C (fun aG=>?_) (fun bk=>?_);rotate_left;have bk:j=a.length:=by
   have:a.length≤j:=by simpa using bk
   omega
  ·rw [fC ai,fC ai] at aH
   rw [aH];refine fJ ?_;exact bA I
  have aG:j<a.length:=by simpa using aG
  obtain ⟨x,ab,ch⟩:=cD (f:=bg) aG;obtain ⟨y,ay,ey⟩:=cD (f:=bg) (by omega:j<b.length);rw [drop_cons ab,drop_cons ay,List.cons_beq_cons] at aH;refine lH ?_;refine af.re ak mixed C (bf.run C ?_);refine bf.idx 2 j C C C C C C C C C C C C C ch C ?_;refine bf.idx 6 j C C C C C C C C C C C C C ey C ?_;refine bf.run C (bf.done C ?_);refine af.cond C (fun aC=>?_) (fun aC=>?_)
  ·have aC:x≠y:=by simpa using aC
   rw [aH,beq_false_of_ne aC];refine mh ?_;exact bA I
  ·have aC:x=y:=by simpa using aC
   subst aC;rw [beq_self_eq_true,Bool.true_and] at aH;refine gi ?_;refine bX.mk (j+1) I ⟨aG,aH⟩ c7 bM xT
end Go.Proofs.YtnafpeohfbglmaaGreat
namespace Go.Proofs.YtnafpeohfbglmaaGreat
open Go.bj Go.bY
theorem Pn {α:Type} (q:α→Bool) {l:List α} {j:Nat} {x:α} (h:l[j]? = some x):(l.take (j+1)).filter q=(l.take j).filter q++(if q x then [x] else []):=by
 rw [mi h,List.filter_append];congr 1;cases bs:q x<;>simp [bs]
theorem HM (fv:ad) (q:Int→Bool) (bs:∀ y,dM Tryz.prog fv [.int .i64 y] (.bool (q y))) (l:List Int) (aI:l.length<bt):a7 Tryz.prog 307 [bI l,fv] (bI (l.filter q)):=by
 have an:=bQ;obtain ⟨xs,gW⟩:∃ xs:Nat→List ad,∀ j,xs j=((l.take j).filter q).map bg:=⟨_,fun _=>rfl⟩;have bB:xs 0=[]:=by rw [gW];rfl
 have jI:∀ j,(xs j).length≤l.length:=fun j=>by
  rw [gW,List.length_map];exact Nat.le_trans (List.length_filter_le _ _) (List.length_take_le' _ _)
 refine a7.bp ak call307 Tryz.func307 C C fun s I=>?_
 unfold bI;refine iO ?_;refine af.kz I 3 1 0 fun I=>?_
 refine af.cT [1,8,9] C I (σ:=Nat×bU) (fun q=>[(10,.int .i64 (q.1:Int)),(5,.aA 1 (xs q.1) q.2)]) (fun q=>[(q.2,.row 3 1 (xs q.1).length)]) (fun q=>q.1≤l.length) (fun q=>l.length-q.1) (0,.nil) (Nat.zero_le _) ⟨⟨_,rfl,aR⟩,⟨_,rfl,by rw [bB];exact a8.nil jO⟩,trivial⟩ (by rw [bB];exact au.fh _) ?_;rintro ⟨j,own⟩ aS I;simp only at aS I ⊢;refine cL ?_;refine af.cond C (fun aG=>?_) (fun bk=>?_);rotate_left;have bk:j=l.length:=by
  have:l.length≤j:=by simpa using bk
  omega
 ·subst bk
  have he:xs l.length=(l.filter q).map bg:=by rw [gW,List.take_length]
  rw [he];refine fJ ?_;exact Fin.dT I C a8.bd
 have aG:j<l.length:=by simpa using aG
 obtain ⟨y,ay,ey⟩:=cD (f:=bg) aG;have aw:=gW (j+1);rw [Pn q ay,List.map_append,← gW] at aw;have q7:=jI j;have Po:=bs y;unfold bg at ey;refine fA ?_;refine aa.kx C C C C C C Po ?_;cases av:q y with
 | true=>
  have aw:xs (j+1)=xs j++[.int .i64 y]:=by rw [aw,av];rfl
  have dy:(xs (j+1)).length=(xs j).length+1:=by rw [aw];simp
  refine bP ?_;refine aa.iN ak I C C C C C C C eQ C C C C C C C C a1 k4 mK ai (fun ct I=>?_);refine h8 ?_;refine bX.mk (j+1,.own ct) I aG tZ (by show au _ [(_,.row _ _ (xs (j+1)).length)] _;rw [dy];exact au.fh _) (by show l.length-(j+1)<l.length-j;omega)
 | false=>
  have aw:xs (j+1)=xs j:=by rw [aw,av];simp
  refine bP ?_;refine bX.mk (j+1,own) I aG tZ (by show au _ [(_,.row _ _ (xs (j+1)).length)] _;rw [aw];exact au.fh _) (by show l.length-(j+1)<l.length-j;omega)
theorem Pp (y:Int):dM Tryz.prog (.func 316 [] []) [.int .i64 y] (.bool (y != 0)):=by
 refine dM.eP (first:=[]) (cap:=[]) ?_;refine a7.bp ak call316 Tryz.func316 C C fun s I=>?_
 refine nv ?_;exact bA I
theorem Pq (l:List Int) (aI:l.length<bt):a7 Tryz.prog 306 [bI l] (bI (hU 0 l)):=by
 refine a7.bp ak call306 Tryz.func306 C C fun s I=>?_
 refine dF ?_;refine aa.eB C C C C C (HM _ _ Pp l aI) ?_;refine dO ?_;exact bA I
theorem HN (g:List (List Int)) (ao:g.length<bt):a7 Tryz.prog 274 [gb g] (.bool (oa g)):=by
 have an:=bQ;refine a7.bp ak call274 Tryz.func274 C C fun s I=>?_
 unfold gb;unfold oa;refine cL ?_;refine af.cond C (fun h=>?_) (fun h=>?_)
 ·have U:decide (g.length≤16)=false:=by simp at h ⊢;omega
  rw [U];refine j' ?_;exact bA I
 have U:decide (g.length≤16)=true:=by simp at h ⊢;omega
 have nb:g.length≤16:=of_decide_eq_true U;rw [U,Bool.true_and];refine lH ?_;refine af.cT [10,11] C I (σ:=Nat) (fun j=>[(12,.int .i64 (j:Int))]) (fun _=>[]) (fun j=>j≤g.length∧p5 0 g=p5 j (g.drop j)) (fun j=>g.length-j) 0 ⟨Nat.zero_le _,rfl⟩ (c3 C) bM ?_;rintro j ⟨aS,aH⟩ I;refine cL ?_;refine af.cond C (fun aG=>?_) (fun bk=>?_);rotate_left;have bk:j=g.length:=by
  have:g.length≤j:=by simpa using bk
  omega
 ·rw [fC ai,p5] at aH
  rw [aH];refine fJ ?_;exact bA I
 have aG:j<g.length:=by simpa using aG
 obtain ⟨l,ay,ey⟩:=cD (f:=bI) aG;rw [drop_cons ay,p5] at aH;unfold bI at ey;refine bP ?_;refine af.cond C (fun h=>?_) (fun h=>?_)
 ·have ae:decide (l.length≤3)=false:=by simp at h ⊢;omega
  rw [aH,ae];refine mh ?_;exact bA I
 have ae:decide (l.length≤3)=true:=by simp at h ⊢;omega
 have nc:l.length≤3:=of_decide_eq_true ae;rw [ae,Bool.true_and] at aH;refine lH ?_;refine af.cT [3,4,10,11,12,20,21] C I (σ:=Nat) (fun k=>[(22,.int .i64 (k:Int))]) (fun _=>[]) (fun k=>k≤l.length∧ny 3 j [] l=ny 3 j (l.take k) (l.drop k)) (fun k=>l.length-k) 0 ⟨Nat.zero_le _,rfl⟩ (c3 C) bM ?_;rintro k ⟨aD,br⟩ I;refine cL ?_;refine af.cond C (fun c6=>?_) (fun e1=>?_);rotate_left
 ·have e1:l.length≤k:=by simpa using e1
  rw [fC e1,ny] at br;rw [br,Bool.true_and] at aH;refine bP ?_;refine bX.mk (j+1) I ⟨aG,aH⟩ c7 bM ua
 have c6:k<l.length:=by simpa using c6
 obtain ⟨c,aE,x6⟩:=cD (f:=bg) c6;rw [drop_cons aE,ny] at br;rw [br] at aH;unfold bg at x6;have w:IntKind.wrap .i64 (3+(j:Int))=3+(j:Int):=e0 ai ai;refine fA ?_;by_cases al:c<3
 ·rw [decide_eq_false (show ¬ c≥3 by omega),Bool.false_and,Bool.false_and] at aH
  refine aa.eH 29 C (decide_eq_true al) ?_;refine cC ?_;rw [aH];exact bA I
 rw [decide_eq_true (show c≥3 by omega),Bool.true_and] at aH br;refine aa.dR 29 C (decide_eq_false al) ?_;refine d' ?_;by_cases bl:c≥3+(j:Int)
 ·rw [decide_eq_false (show ¬ c<3+(j:Int) by omega),Bool.false_and] at aH
  refine aa.eH 35 C (by rw [w];exact decide_eq_true bl) ?_;refine cC ?_;rw [aH];exact bA I
 rw [decide_eq_true (show c<3+(j:Int) by omega),Bool.true_and] at aH br;refine aa.dR 35 C (by rw [w];exact decide_eq_false bl) ?_;have k8:=vO (l.take k) c (by have:=List.length_take_le' k l;omega);unfold bI at k8;rw [List.map_take] at k8;refine d' ?_;refine aa.slice ak 0 k C C C C C C C C (.inr C) (.inl ⟨rfl,rfl⟩) (.inr ⟨_,_,rfl,rfl⟩) (.inl ⟨rfl,rfl⟩) (Nat.zero_le _) (by simpa using aD) ?_;rw [List.drop_zero];refine d' ?_;refine aa.eB C C C C C k8 ?_;cases bD:(l.take k).contains c with
 | true=>
  rw [bD,Bool.not_true,Bool.false_and] at aH;refine cC ?_;rw [aH];exact bA I
 | false=>
  rw [bD,Bool.not_false,Bool.true_and,← mi aE] at aH br;refine bP ?_;exact bX.mk (k+1) I ⟨c6,by rw [br]⟩ c7 bM (by show l.length-(k+1)<l.length-k;omega)
end Go.Proofs.YtnafpeohfbglmaaGreat
namespace Go.Proofs.YtnafpeohfbglmaaGreat
open Go.bj Go.bY
structure rr (n b:Nat) (all:List (List Int)):Prop where
 len:all.length≤n
 each:∀ l∈all,l.length≤b∧∀ c∈l,0≤c
theorem rr.hU {n b:Nat} {all:List (List Int)} (h:rr n b all) (c:Int):rr n b (all.map (hU c)):=by
 refine ⟨by rw [List.length_map];exact h.len,fun l aI=>?_⟩;obtain ⟨lB,U,rfl⟩:=List.mem_map.1 aI;obtain ⟨ae,al⟩:=h.each lB U;exact ⟨Nat.le_trans (x4 _ _) ae,fun c aE=>al c (List.mem_filter.1 aE).1⟩
theorem HO {n b:Nat} {all:List (List Int)} (h:rr n b all):total all≤n*b:=by
 obtain ⟨U,ae⟩:=h;have:total all≤all.length*b:=by
  clear U
  induction all with
  | nil=>simp [total]
  | cons l r a'=>
   have al:=(ae l List.mem_cons_self).1;have bl:=a' (fun x ab=>ae x (List.mem_cons_of_mem _ ab));have bD:total (l::r)=l.length+total r:=rfl;rw [bD,List.length_cons,Nat.add_mul];omega
 exact Nat.le_trans this (Nat.mul_le_mul_right _ U)
theorem Ps {all l:List (List Int)} {j:Nat} (h:l[j]? = some []):pick all (l.drop j)=pick all (l.drop (j+1)):=by
 rw [drop_cons h];rfl
theorem Pt {all l:List (List Int)} {j:Nat} {c:Int} {r:List Int} (h:l[j]? = some (c::r)):pick all (l.drop j)=if free all c then some c else pick all (l.drop (j+1)):=by
 rw [drop_cons h];rfl
end Go.Proofs.YtnafpeohfbglmaaGreat
namespace Go.Proofs.YtnafpeohfbglmaaGreat
open Go.bj Go.bY
structure uh (g:List (List Int)):Prop where
 len:g.length≤16
 par:∀ (i:Nat) (l:List Int),g[i]? = some l→l.length≤3∧∀ c∈l,3≤c∧c<3+(i:Int)
theorem HP {f i:Int}:∀ {l seen:List Int},ny f i seen l=true→∀ c∈l,f≤c∧c<f+i
  | [],_,_,c,aE=>by cases aE
  | d::r,seen,h,c,aE=>by
    rw [ny] at h;simp only [Bool.and_eq_true,decide_eq_true_eq] at h;rcases List.mem_cons.1 aE with rfl|aE
    · exact ⟨h.1,h.2.1⟩
    · exact HP h.2.2.2 c aE
theorem HQ:∀ {g:List (List Int)} {k:Nat},p5 k g=true→∀ i l,g[i]? = some l→l.length≤3∧∀ c∈l,3≤c∧c<3+((k+i:Nat):Int)
  | [],_,_,i,l,aI=>by simp at aI
  | x::r,k,h,i,l,aI=>by
    rw [p5] at h;simp only [Bool.and_eq_true,decide_eq_true_eq] at h;cases i with
    | zero=>
      cases aI;exact ⟨h.1,fun c aE=>by have:=HP h.2.1 c aE;omega⟩
    | succ i=>
      have:=HQ h.2.2 i l aI;rw [show k+1+i=k+(i+1) by omega] at this;exact this
theorem DD {g:List (List Int)} (h:oa g=true):uh g:=by
 unfold oa at h;simp only [Bool.and_eq_true,decide_eq_true_eq] at h;refine ⟨h.1,fun i l aI=>?_⟩;have:=HQ h.2 i l aI;simpa using this
theorem uh.parents {g:List (List Int)} (h:uh g) (c:Nat):(parents g c).length≤3∧∀ p∈parents g c,3≤p∧p<(c:Int):=by
 unfold Go.bY.parents;by_cases aE:c<3
 ·rw [if_pos aE];exact ⟨by simp,fun p aN=>by cases aN⟩
 ·rw [if_neg aE,List.getD_eq_getElem?_getD]
  cases aI:g[c-3]? with
  | none=>exact ⟨by simp,fun p aN=>by simp at aN⟩
  | some l=>
   obtain ⟨U,ae⟩:=h.par _ _ aI;exact ⟨U,fun p aN=>by have:=ae p aN;omega⟩
structure W6 (n:Nat) (l:List Int):Prop where
 len:l.length≤n
 pos:∀ c∈l,0≤c
theorem HR:∀ (k:Nat) (all:List (List Int)) (acc:List Int),(merge k all acc).1.length≤acc.length+total all
  | 0,_,acc=>by rw [merge];exact Nat.le_add_right _ _
  | k+1,all,acc=>by
    rw [merge];cases aN:pick all all with
    | none=>exact Nat.le_add_right _ _
    | some d=>
      simp only;have U:=HR k (all.map (hU d)) (acc++[d]);have ae:=HJ (vN aN);rw [List.length_append,List.length_singleton] at U;omega
theorem HS {o:List (List Int)}:∀ {l:List Int} {r:List (List Int)},iP o l=some r→r.length=l.length
  | [],r,h=>by cases h;rfl
  | p::q,r,h=>by
    rw [iP] at h;split at h
    · cases h
    · cases bs:iP o q with
      | none=>rw [bs] at h;cases h
      | some t=>
        rw [bs] at h;cases h;rw [List.length_cons,HS bs,List.length_cons]
def pre (x:Option (List (List Int))) (a:List (List Int)):Option (List (List Int)):=x.map fun l=>a++l
theorem Pu (x:Option (List (List Int))):pre x []=x:=by cases x<;>rfl
theorem Pv (o:List (List Int)) (a:List (List Int)) (p:Int) (q:List Int):pre (iP o (p::q)) a=if (o.getD p.toNat []).isEmpty then none else pre (iP o q) (a++[hU 0 (o.getD p.toNat [])]):=by
 unfold pre;rw [iP];split
 ·rfl
 ·cases iP o q<;>simp
def AM:Option (List (List Int))→ad
 | some l => .cl [gb l,.bool true]
 | none => .cl [gb [],.bool false]
end Go.Proofs.YtnafpeohfbglmaaGreat
namespace Go.Proofs.YtnafpeohfbglmaaGreat
open Go.bj Go.bY
theorem af.AN {P:Program} {N:Nat} {Q:b2→Env→aj→Prop} {env:Env} {s:aj} {c:Code} {L:a6} (I:Ok s L) (e:TypeId) (sz n:Nat) (h:Ok s ((.clip,.row e sz n)::L)→af P N c Q env (aQ s ((.clip,.row e sz n)::L))):af P N c Q env (aQ s L):=h ⟨trivial,I⟩
theorem aa.AN {P:Program} {N:Nat} {ops:Array Oper} {Q:b2→Env→aj→Prop} {env:Env} {s:aj} {l:List Oper} {L:a6} (I:Ok s L) (e:TypeId) (sz n:Nat) (h:Ok s ((.clip,.row e sz n)::L)→aa P N ops l Q env (aQ s ((.clip,.row e sz n)::L))):aa P N ops l Q env (aQ s L):=h ⟨trivial,I⟩
theorem DE:∀ (n:Nat) (l:List Int),l.Nodup→(∀ c∈l,0≤c∧c<(n:Int))→l.length≤n
  | 0,[],_,_=>Nat.le_refl _
  | 0,c::r,_,h=>by have:=h c List.mem_cons_self;omega
  | n+1,l,ar,h=>by
    by_cases hm:(n:Int)∈l
    · have U:=DE n (l.erase (n:Int)) (ar.erase _) (fun c aE=>by
        obtain ⟨ae,al⟩:=ar.mem_erase_iff.1 aE
        have:=h c al
        omega)
      rw [List.length_erase_of_mem hm] at U;omega
    · have:=DE n l ar (fun c aE=>by
        have U:=h c aE
        have:c≠(n:Int):=fun e=>hm (e ▸ aE)
        omega)
      omega
theorem HT:∀ (k:Nat) (all:List (List Int)) (acc:List Int),acc.Nodup→(∀ c∈acc,∀ l∈all,c∉l)→(merge k all acc).1.Nodup
  | 0,_,_,h,_=>h
  | k+1,all,acc,h,ar=>by
    rw [merge];cases aN:pick all all with
    | none=>exact h
    | some d=>
      simp only;obtain ⟨t,aK⟩:=vN aN;refine HT k _ _ ?_ ?_
      · rw [List.nodup_append]
        exact ⟨h,by simp,fun a aV b an=>by
          rw [List.mem_singleton] at an;subst an
          intro e;subst e
          exact ar a aV _ aK List.mem_cons_self⟩
      · intro c aE l aI
        obtain ⟨lB,U,rfl⟩:=List.mem_map.1 aI;unfold hU;rw [List.mem_filter];rintro ⟨ae,al⟩;rcases List.mem_append.1 aE with aE|aE
        · exact ar c aE lB U ae
        · rw [List.mem_singleton] at aE;subst aE;simp at al
theorem HU {q:Int→Prop}:∀ (k:Nat) (all:List (List Int)) (acc:List Int),(∀ l∈all,∀ c∈l,q c)→(∀ c∈acc,q c)→∀ c∈(merge k all acc).1,q c
  | 0,_,acc,_,h=>h
  | k+1,all,acc,aV,h=>by
    rw [merge];cases aN:pick all all with
    | none=>exact h
    | some d=>
      simp only;refine HU k _ _ (fun l aI c aE=>?_) (fun c aE=>?_)
      · obtain ⟨lB,U,rfl⟩:=List.mem_map.1 aI
        exact aV lB U c (List.mem_filter.1 aE).1
      · rcases List.mem_append.1 aE with aE|aE
        · exact h c aE
        · rw [List.mem_singleton] at aE;subst aE
          obtain ⟨t,aK⟩:=vN aN;exact aV _ aK c List.mem_cons_self
theorem DF {q:Int→Prop} {o:List (List Int)} (ag:∀ l∈o,∀ c∈l,q c):∀ {l:List Int} {r:List (List Int)},iP o l=some r→∀ x∈r,∀ c∈x,q c
  | [],r,h,x,ab=>by cases h;cases ab
  | p::t,r,h,x,ab=>by
    rw [iP] at h;split at h
    · cases h
    · cases bs:iP o t with
      | none=>rw [bs] at h;cases h
      | some s=>
        rw [bs] at h;cases h;rcases List.mem_cons.1 ab with rfl|ab
        · intro c aE
          have aE:=(List.mem_filter.1 aE).1;rw [List.getD_eq_getElem?_getD] at aE;cases aI:o[p.toNat]? with
          | none=>rw [aI] at aE;cases aE
          | some l=>rw [aI] at aE;exact ag l (List.mem_of_getElem? aI) c aE
        · exact DF ag bs x ab
structure DG (n:Nat) (o:List (List Int)):Prop where
 len:∀ l∈o,l.length≤n+2
 DH:∀ l∈o,∀ c∈l,0≤c∧c<(n:Int)
theorem Pw {g:List (List Int)} (ao:uh g) {o:List (List Int)} {c:Nat} (aE:c<3+g.length) (ag:DG (3+g.length) o):(order g o c).length≤3+g.length+2∧∀ x∈order g o c,0≤x∧x<((3+g.length:Nat):Int):=by
 unfold order;cases aI:lists g o c with
 | none=>exact ⟨by simp,fun x ab=>by cases ab⟩
 | some all=>
  simp only;split
  ·have aN:=ao.parents c
   have fV:∀ l∈all,∀ c∈l,0≤c∧c<((3+g.length:Nat):Int):=by
    unfold lists at aI;cases bs:iP o (parents g c) with
    | none=>rw [bs] at aI;cases aI
    | some r=>
     rw [bs] at aI;cases aI;intro l aI x ab;rcases List.mem_append.1 aI with aI|aI
     ·exact DF (q:=fun x=>0≤x∧x<((3+g.length:Nat):Int)) ag.DH bs l aI x ab
     ·rw [List.mem_singleton] at aI;subst aI
      have:=aN.2 x ab;omega
   have U:∀ x∈(merged all).1,0≤x∧x<((3+g.length:Nat):Int):=HU _ all [] fV (fun c aE=>by cases aE);have ae:(merged all).1.Nodup:=HT _ all [] List.nodup_nil (fun c aE=>by cases aE);have al:=DE _ _ ae U;refine ⟨by rw [List.length_append,List.length_cons,List.length_singleton];omega,fun x ab=>?_⟩;rcases List.mem_append.1 ab with ab|ab
   ·rcases List.mem_cons.1 ab with rfl|ab
    ·omega
    ·exact U x ab
   ·rw [List.mem_singleton] at ab;omega
  ·exact ⟨by simp,fun x ab=>by cases ab⟩
theorem AO {g:List (List Int)} (ao:uh g):∀ k,k<3+g.length→DG (3+g.length) (gj g k)
  | 0,_=>⟨fun l aI=>by rw [gj,List.mem_singleton] at aI;subst aI;simp,fun l aI c aE=>by rw [gj,List.mem_singleton] at aI;subst aI;rw [List.mem_singleton] at aE;omega⟩
  | k+1,h=>by
    have a':=AO ao k ai;have U:=Pw ao h a';rw [gj];refine ⟨fun l aI=>?_,fun l aI=>?_⟩
    · rcases List.mem_append.1 aI with aI|aI
      · exact a'.len l aI
      · rw [List.mem_singleton] at aI;subst aI;exact U.1
    · rcases List.mem_append.1 aI with aI|aI
      · exact a'.DH l aI
      · rw [List.mem_singleton] at aI;subst aI;exact U.2
end Go.Proofs.YtnafpeohfbglmaaGreat
namespace Go.Proofs.YtnafpeohfbglmaaGreat
open Go.bj Go.bY
theorem a8.Px {sz:Nat} {xs ys:List ad} {own:bU} (h:cA xs ys):a8 (.aA sz xs own) (.aA sz ys own):=fun w p v av=>by
 cases av with
 | gU _ _ ag=>cases h;exact .gU _ _ ag
 | hE a _ _ ag=>cases h;exact .hE a _ _ ag
 | aA g off n cap _ vs _ _ aC aI aE az aw hm aD cE ag=>exact .aA g off n cap _ vs _ _ aC (by rw [aI];exact h.length) aE (h.rel az) aw hm aD cE ag
theorem Py {g:List (List Int)} (ao:uh g) {o:List (List Int)} {c:Nat} (ag:DG (3+g.length) o) {all:List (List Int)} (h:lists g o c=some all):rr 4 21 all:=by
 have aN:=ao.parents c;have jc:=ao.len;unfold lists at h;cases bs:iP o (parents g c) with
 | none=>rw [bs] at h;cases h
 | some r=>
  rw [bs] at h;cases h;have aI:=HS bs;refine ⟨by rw [List.length_append,List.length_singleton];omega,fun l aI=>?_⟩;rcases List.mem_append.1 aI with aI|aI
  ·refine ⟨?_,fun x ab=>(DF (q:=fun x=>0≤x) (fun l aI c aE=>(ag.DH l aI c aE).1) bs l aI x ab)⟩
   have key:∀ {l:List Int} {r:List (List Int)},iP o l=some r→∀ x∈r,x.length≤21:=by
    intro l
    induction l with
    | nil=>intro r h x ab;cases h;cases ab
    | cons p t a'=>
     intro r h x ab;rw [iP] at h;split at h
     ·cases h
     ·cases bs:iP o t with
      | none=>rw [bs] at h;cases h
      | some s=>
       rw [bs] at h;cases h;rcases List.mem_cons.1 ab with rfl|ab
       ·refine Nat.le_trans (x4 _ _) ?_
        rw [List.getD_eq_getElem?_getD];cases aI:o[p.toNat]? with
        | none=>simp
        | some l=>
         have:=ag.len l (List.mem_of_getElem? aI);show l.length≤21;omega
       ·exact a' bs x ab
   exact key bs l aI
  ·rw [List.mem_singleton] at aI;subst aI
   exact ⟨by omega,fun x ab=>by have:=aN.2 x ab;omega⟩
end Go.Proofs.YtnafpeohfbglmaaGreat
namespace Go.bY
inductive ax where
 | mk (op arg:Int) (path:List Int) (cls n:Int) (kids:List ax)
namespace ax
def op:ax→Int | .mk o _ _ _ _ _=>o
def arg:ax→Int | .mk _ a _ _ _ _=>a
def path:ax→List Int | .mk _ _ p _ _ _=>p
def cls:ax→Int | .mk _ _ _ c _ _=>c
def n:ax→Int | .mk _ _ _ _ n _=>n
def kids:ax→List ax | .mk _ _ _ _ _ k=>k
mutual
def size:ax→Nat
 | .mk _ _ p _ _ ks=>1+p.length+jy ks
def jy:List ax→Nat
 | []=>0
 | k::r=>k.size+jy r
end
theorem size_eq (x:ax):x.size=1+x.path.length+jy x.kids:=by cases x;rw [size];rfl
theorem jP:∀ {l:List ax} {x:ax},x∈l→x.size≤jy l
  | k::r,x,h=>by
    rw [jy];rcases List.mem_cons.1 h with rfl|h
    · omega
    · have:=jP h;omega
theorem ui:∀ l:List ax,l.length≤jy l
 | []=>Nat.le_refl _
 | k::r=>by have:=ui r;rw [jy,List.length_cons,size_eq];omega
instance:Inhabited ax:=⟨.mk 0 0 [] 0 0 []⟩
mutual
def same:ax→ax→Bool
 | .mk o a p c n ks,.mk o' cR bb mN n' AP=>decide (o=o')&&(decide (a=cR)&&(decide (c=mN)&&(decide (n=n')&&(p==bb&&nA ks AP))))
def nA:List ax→List ax→Bool
 | [],[]=>true
 | x::r,y::t=>same x y&&nA r t
 | _,_=>false
end
mutual
theorem HV:∀ (x y:ax),same x y=true↔x=y
  | .mk o a p c n ks,.mk o' cR bb mN n' AP=>by
    rw [same];simp only [Bool.and_eq_true,decide_eq_true_eq,beq_iff_eq,HW ks AP,ax.mk.injEq];constructor
    · rintro ⟨U,ae,al,bl,bD,fG⟩;exact ⟨U,ae,bD,al,bl,fG⟩
    · rintro ⟨U,ae,bD,al,bl,fG⟩;exact ⟨U,ae,al,bl,bD,fG⟩
theorem HW:∀ (x y:List ax),nA x y=true↔x=y
  | [],[]=>by simp [nA]
  | [],y::t=>by simp [nA]
  | x::r,[]=>by simp [nA]
  | x::r,y::t=>by
    rw [nA,Bool.and_eq_true,HV x y,HW r t,List.cons.injEq]
end
def du (f:ax):Bool:=decide (f.op≥2)&&decide (f.op≤4)
def not (f:ax):ax := .mk 5 0 [] 0 0 [f]
def and (f g:ax):ax := .mk 6 0 [] 0 0 [f,g]
end ax
structure bT where
 bK:List (List Int)
 owner:List Int
structure p6 where
 slot:Int
 n:Int
structure hK where
 parents:List Int
 bx:List Int
 inits:List p6
 deriving Inhabited
structure kC where
 kind:Int
 gen:Int
 fact:ax
 node:Int
 deriving Inhabited
structure p7 where
 op:Int
 n:Int
 kids:List Int
 deriving Inhabited
structure b9 where
 dH:List hK
 bx:Int
 eY:List Int
 methods:List kC
 nodes:List p7
 main:Int
structure eW where
 cls:Int
 bx:List (Int×Int)
 deriving Inhabited
def vQ (op:Int):Nat:=if op=5 then 1 else if op=6∨op=7 then 2 else 0
def nB (n:Int):Bool:=decide (n ≥ -1000000000)&&decide (n≤1000000000)
def iE (w:bT) (f:ax):Bool:=
 decide (f.op≥1)&&(decide (f.op≤7)&&(decide (f.kids.length=vQ f.op) &&
  (if f.du then
   decide (f.arg≥0)&&(decide (f.arg<3)&&(decide (f.path.length≤2)&&(f.path.all (fun s=>decide (s≥0)&&decide (s<w.owner.length)) &&
    (if f.op=2 then decide (f.n=0)&&(decide (f.cls≥0)&&decide (f.cls<3+w.bK.length)) else decide (f.cls=0)&&nB f.n))))
  else decide (f.arg=0)&&(decide (f.path.length=0)&&(decide (f.cls=0)&&decide (f.n=0))))))
mutual
def eX (w:bT) (d:Nat) (k:Int):ax→Bool×Int
 | .mk o a p c n ks=>
  if decide (k-1<0)||decide (d=0) then (false,k-1)
  else if iE w (.mk o a p c n ks) then hd w (d-1) (k-1) ks else (false,k-1)
def hd (w:bT) (d:Nat) (k:Int):List ax→Bool×Int
 | []=>(true,k)
 | x::r=>if (eX w d k x).1 then hd w d (eX w d k x).2 r else (false,(eX w d k x).2)
end
def iQ (w:bT) (f:ax):Bool:=(eX w 12 24 f).1
end Go.bY
namespace Go.bj
theorem au.all:∀ L:a6,au L L []
 | [] => .nil
 | (_,_)::L => .cons .here (au.all L)
end Go.bj
namespace Go.bY.ax
open Go.bj
mutual
def cj:ax→ad
 | .mk o a p c n ks => .agg [.int .i64 o,.int .i64 a,.aA 1 (p.map fun i => .int .i64 i) .bd,.int .i64 c,.int .i64 n,.aA 6 (AQ ks) .bd]
def AQ:List ax→List ad
 | []=>[]
 | k::r=>k.cj::AQ r
end
theorem HX:∀ l:List ax,AQ l=l.map cj
 | []=>rfl
 | k::r=>by rw [AQ,List.map_cons,HX r]
def cells (x:ax):List ad:=[.int .i64 x.op,.int .i64 x.arg,.aA 1 (x.path.map fun i => .int .i64 i) .bd,.int .i64 x.cls,.int .i64 x.n,.aA 6 (x.kids.map cj) .bd]
theorem cO (x:ax):x.cj = .agg x.cells:=by cases x;rw [cj,HX];rfl
end Go.bY.ax
namespace Go.Proofs.YtnafpeohfbglmaaGreat
open Go.bj Go.bY
def hf (w:bT):List ad:=[gb w.bK,bI w.owner]
def iR (w:bT):ad := .agg (hf w)
def DI (x:p6):ad := .agg [.int .i64 x.slot,.int .i64 x.n]
def ss (c:hK):List ad:=[bI c.parents,bI c.bx,.aA 2 (c.inits.map DI) .bd]
def jf (c:hK):ad := .agg (ss c)
def uj (m:kC):List ad:=[.int .i64 m.kind,.int .i64 m.gen,.int .i64 m.fact.op,.int .i64 m.fact.arg,.aA 1 (m.fact.path.map fun i => .int .i64 i) .bd,.int .i64 m.fact.cls,.int .i64 m.fact.n,.aA 6 (m.fact.kids.map ax.cj) .bd,.int .i64 m.node]
def nC (m:kC):ad := .agg (uj m)
def ob (x:p7):List ad:=[.int .i64 x.op,.int .i64 x.n,bI x.kids]
def ka (x:p7):ad := .agg (ob x)
def dC (p:b9):List ad:=[.aA 3 (p.dH.map jf) .bd,.int .i64 p.bx,bI p.eY,.aA 9 (p.methods.map nC) .bd,.aA 3 (p.nodes.map ka) .bd,.int .i64 p.main]
def ee (p:b9):ad := .agg (dC p)
def fj (x:bC):List ad:=[.int .i64 x.atom,.int .i64 x.no,.int .i64 x.yes,bI x.ms]
def de (x:bC):ad := .agg (fj x)
theorem dM.HY {P:Program} {fv:ad} {args:List ad} {v:ad} (h:dM P fv args v):c2 P fv args [] (fun o K=>o = .ret v∧K=[]):=fun s _=>gM.mono (h s) (fun o ah ⟨U,ae⟩=>⟨[],ae,trivial,U,rfl⟩)
theorem bu.AR {P:Program} {f:FuncId} {args:List ad} {v:ad} (h:bu P f args [] (fun o K=>o = .ret v∧K=[])):a7 P f args v:=fun s=>gg.mono (h s trivial) (fun o ah ⟨K,U,_,ae,al⟩=>⟨ae,by subst al;exact U⟩)
theorem HZ {α:Type} (q:α→Bool):∀ (xs:List α) (j:Nat) (x:α),xs[j]? = some x→q x=true→(∀ (i:Nat) y,i<j→xs[i]? = some y→q y=false)→xs.findIdx? q=some j:=by
 intro xs j x ab bs aY;obtain ⟨U,ae⟩:=List.getElem?_eq_some_iff.1 ab;rw [List.findIdx?_eq_some_iff_getElem];exact ⟨U,by rw [ae];exact bs,fun i ek=>by rw [aY i xs[i] ek (List.getElem?_eq_getElem _)];simp⟩
theorem H0 {α:Type} (q:α→Bool) (xs:List α) (aY:∀ (i:Nat) y,xs[i]? = some y→q y=false):xs.findIdx? q=none:=by
 rw [List.findIdx?_eq_none_iff];intro x ab;obtain ⟨i,h⟩:=List.getElem?_of_mem ab;exact aY i x h
theorem Pz {α:Type} {f:FuncId} {fv bw:ad} {cj:α→ad} {xs:List α} {q:α→Bool}
  (aw:∀ (T:Nat→a6) (cc:Nat→Bool),(∀ j x,xs[j]? = some x→(∀ i,i<j→cc i=false)→c2 Tryz.prog fv [cj x] (T j) (fun o K=>o = .ret (.bool (cc j))∧K=T (j+1)))→bu Tryz.prog f [bw,fv] (T 0)
   (fun o K=>(o = .ret (.int .i64 (-1))∧K=T xs.length∧∀ i,i<xs.length→cc i=false)∨∃ j,j<xs.length∧cc j=true∧(∀ i,i<j→cc i=false)∧o = .ret (.int .i64 (j:Int))∧K=T (j+1)))
  (h:∀ x∈xs,dM Tryz.prog fv [cj x] (.bool (q x))):a7 Tryz.prog f [bw,fv] (.int .i64 (match xs.findIdx? q with|some i=>(i:Int)|none => -1)):=by
 have:=aw (fun _=>[]) (fun j=>match xs[j]? with|some x=>q x|none=>false) (fun j x ab _=>by rw [ab];exact dM.HY (h x (List.mem_of_getElem? ab)));refine bu.AR (bu.mono this ?_);rintro o K (⟨rfl,rfl,U⟩|⟨j,U,ae,al,rfl,rfl⟩)
 ·rw [H0 q xs (fun i y ay=>by have:=U i (sq ay);rw [ay] at this;exact this)]
  exact ⟨rfl,rfl⟩
 ·have ab:=List.getElem?_eq_getElem U
  rw [ab] at ae;rw [HZ q xs j _ ab ae (fun i y ek ay=>by have:=al i ek;rw [ay] at this;exact this)];exact ⟨rfl,rfl⟩
theorem x7 {α:Type} {f:FuncId} {fv bw:ad} {cj:α→ad} {xs:List α} {q:α→Bool}
  (aw:∀ (T:Nat→a6) (cc:Nat→Bool),(∀ j x,xs[j]? = some x→(∀ i,i<j→cc i=false)→c2 Tryz.prog fv [cj x] (T j) (fun o K=>o = .ret (.bool (cc j))∧K=T (j+1)))→bu Tryz.prog f [bw,fv] (T 0)
   (fun o K=>(o = .ret (.bool false)∧K=T xs.length∧∀ i,i<xs.length→cc i=false)∨∃ j,j<xs.length∧cc j=true∧(∀ i,i<j→cc i=false)∧o = .ret (.bool true)∧K=T (j+1)))
  (h:∀ x∈xs,dM Tryz.prog fv [cj x] (.bool (q x))):a7 Tryz.prog f [bw,fv] (.bool (xs.any q)):=by
 have:=aw (fun _=>[]) (fun j=>match xs[j]? with|some x=>q x|none=>false) (fun j x ab _=>by rw [ab];exact dM.HY (h x (List.mem_of_getElem? ab)));refine bu.AR (bu.mono this ?_);rintro o K (⟨rfl,rfl,U⟩|⟨j,U,ae,al,rfl,rfl⟩)
 ·have:xs.any q=false:=by
   rw [List.any_eq_false];intro x ab;obtain ⟨i,aY⟩:=List.getElem?_of_mem ab;have:=U i (sq aY);rw [aY] at this;simpa using this
  rw [this];exact ⟨rfl,rfl⟩
 ·have ab:=List.getElem?_eq_getElem U
  rw [ab] at ae;have:xs.any q=true:=List.any_eq_true.2 ⟨_,List.getElem_mem U,ae⟩;rw [this];exact ⟨rfl,rfl⟩
def fr (v:Int×Int):ad := .agg [.int .i64 v.1,.int .i64 v.2]
def hV (x:eW):ad := .agg [.int .i64 x.cls,.aA 2 (x.bx.map fr) .bd]
theorem H2 (fv:ad) (xs:List ax) (T:Nat→a6) (cc:Nat→Bool) (aI:xs.length<bt) (h:∀ j x,xs[j]? = some x→(∀ i,i<j→cc i=false)→c2 Tryz.prog fv [ax.cj x] (T j) (fun o K=>o = .ret (.bool (cc j))∧K=T (j+1))) :
  bu Tryz.prog 150 [.aA 6 (xs.map ax.cj) .bd,fv] (T 0)
   (fun o K=>(o = .ret (.int .i64 (-1))∧K=T xs.length∧∀ i,i<xs.length→cc i=false)∨∃ j,j<xs.length∧cc j=true∧(∀ i,i<j→cc i=false)∧o = .ret (.int .i64 (j:Int))∧K=T (j+1)):=by
 have an:=bQ;refine bu.bp ak call150 Tryz.func150 C C fun s I=>?_
 refine iO ?_;refine af.vK I (σ:=Nat) (fun j=>[(0,.aA 6 (xs.map ax.cj) .bd),(1,fv),(7,.int .i64 xs.length),(8,.int .i64 (j:Int))]) T (fun j=>j≤xs.length∧∀ i,i<j→cc i=false) (fun j=>xs.length-j) 0 ⟨by omega,fun i aY=>by omega⟩ xS (au.all _) ?_;rintro j ⟨aS,aH⟩ I;refine cL ?_;refine af.cond C (fun aG=>?_) (fun bk=>?_)
 ·have aG:j<xs.length:=by simpa using aG
  obtain ⟨x,ab,ch⟩:=cD (f:=ax.cj) aG;have av:=h j x ab aH
  try rw [ax.cO] at ch av
  refine bP ?_;refine aa.fO rfl rfl rfl rfl rfl rfl av I (au.all _) ?_ (fun _ _ ⟨h,_⟩ _=>by cases h);rintro _ _ ⟨⟨⟩,rfl⟩ I;rw [List.append_nil] at I ⊢;cases mO:cc j with
  | true=>
   refine cC ?_;exact Fin.bH I C aR (au.all _) (.inr ⟨j,aG,mO,aH,rfl,rfl⟩)
  | false=>
   refine bP ?_
   exact bX.mk (j+1) I ⟨aG,fun i aY=>by
    rcases Nat.lt_succ_iff_lt_or_eq.1 aY with aY|rfl
    ·exact aH i aY
    ·exact mO⟩ c7 (au.all _) p2
 ·have bk:j=xs.length:=by
   have:xs.length≤j:=by simpa using bk
   omega
  subst bk;refine fJ ?_;exact Fin.bH I C aR (au.all _) (.inl ⟨rfl,rfl,aH⟩)
theorem DJ (fv:ad) (xs:List ax) (T:Nat→a6) (cc:Nat→Bool) (aI:xs.length<bt) (h:∀ j x,xs[j]? = some x→(∀ i,i<j→cc i=false)→c2 Tryz.prog fv [ax.cj x] (T j) (fun o K=>o = .ret (.bool (cc j))∧K=T (j+1))) :
  bu Tryz.prog 102 [.aA 6 (xs.map ax.cj) .bd,fv] (T 0)
   (fun o K=>(o = .ret (.bool false)∧K=T xs.length∧∀ i,i<xs.length→cc i=false)∨∃ j,j<xs.length∧cc j=true∧(∀ i,i<j→cc i=false)∧o = .ret (.bool true)∧K=T (j+1)):=by
 refine bu.bp ak call102 Tryz.func102 C C fun s I=>?_
 refine dF ?_;refine aa.b0 rfl rfl rfl rfl rfl (H2 fv xs T cc aI h) I (au.all _) ?_ (fun _ _ h _=>by rcases h with ⟨h,_⟩|⟨_,_,_,_,h,_⟩<;>cases h);rintro _ _ (⟨⟨⟩,rfl,U⟩|⟨j,U,ae,al,⟨⟩,rfl⟩) I
 all_goals rw [List.append_nil] at I ⊢
 ·refine dO ?_
  exact Fin.bH I C aR (au.all _) (.inl ⟨rfl,rfl,U⟩)
 ·refine dO ?_
  exact Fin.bH I C (by simp;exact aR) (au.all _) (.inr ⟨j,U,ae,al,rfl,rfl⟩)
theorem PA (fv:ad) (q:ax→Bool) (xs:List ax) (aI:xs.length<bt) (h:∀ x∈xs,dM Tryz.prog fv [ax.cj x] (.bool (q x))) :
  a7 Tryz.prog 102 [.aA 6 (xs.map ax.cj) .bd,fv] (.bool (xs.any q)):=
 x7 (fun T cc dN=>DJ fv xs T cc aI dN) h
theorem PB (fv:ad) (q:ax→Bool) (xs:List ax) (aI:xs.length<bt) (h:∀ x∈xs,dM Tryz.prog fv [ax.cj x] (.bool (q x))) :
  a7 Tryz.prog 150 [.aA 6 (xs.map ax.cj) .bd,fv] (.int .i64 (match xs.findIdx? q with|some i=>(i:Int)|none => -1)):=
 Pz (fun T cc dN=>H2 fv xs T cc aI dN) h
theorem PC (fv:ad) (xs:List Int) (T:Nat→a6) (cc:Nat→Bool) (aI:xs.length<bt) (h:∀ j x,xs[j]? = some x→(∀ i,i<j→cc i=false)→c2 Tryz.prog fv [bg x] (T j) (fun o K=>o = .ret (.bool (cc j))∧K=T (j+1))) :
  bu Tryz.prog 90 [.aA 1 (xs.map bg) .bd,fv] (T 0)
   (fun o K=>(o = .ret (.int .i64 (-1))∧K=T xs.length∧∀ i,i<xs.length→cc i=false)∨∃ j,j<xs.length∧cc j=true∧(∀ i,i<j→cc i=false)∧o = .ret (.int .i64 (j:Int))∧K=T (j+1)):=by
 have an:=bQ;refine bu.bp ak call90 Tryz.func90 C C fun s I=>?_
 refine iO ?_;refine af.vK I (σ:=Nat) (fun j=>[(0,.aA 1 (xs.map bg) .bd),(1,fv),(7,.int .i64 xs.length),(8,.int .i64 (j:Int))]) T (fun j=>j≤xs.length∧∀ i,i<j→cc i=false) (fun j=>xs.length-j) 0 ⟨by omega,fun i aY=>by omega⟩ xS (au.all _) ?_;rintro j ⟨aS,aH⟩ I;refine cL ?_;refine af.cond C (fun aG=>?_) (fun bk=>?_)
 ·have aG:j<xs.length:=by simpa using aG
  obtain ⟨x,ab,ch⟩:=cD (f:=bg) aG;have av:=h j x ab aH
  try rw [bg] at ch av
  refine bP ?_;refine aa.fO rfl rfl rfl rfl rfl rfl av I (au.all _) ?_ (fun _ _ ⟨h,_⟩ _=>by cases h);rintro _ _ ⟨⟨⟩,rfl⟩ I;rw [List.append_nil] at I ⊢;cases mO:cc j with
  | true=>
   refine cC ?_;exact Fin.bH I C aR (au.all _) (.inr ⟨j,aG,mO,aH,rfl,rfl⟩)
  | false=>
   refine bP ?_
   exact bX.mk (j+1) I ⟨aG,fun i aY=>by
    rcases Nat.lt_succ_iff_lt_or_eq.1 aY with aY|rfl
    ·exact aH i aY
    ·exact mO⟩ c7 (au.all _) p2
 ·have bk:j=xs.length:=by
   have:xs.length≤j:=by simpa using bk
   omega
  subst bk;refine fJ ?_;exact Fin.bH I C aR (au.all _) (.inl ⟨rfl,rfl,aH⟩)
theorem H3 (fv:ad) (xs:List Int) (T:Nat→a6) (cc:Nat→Bool) (aI:xs.length<bt) (h:∀ j x,xs[j]? = some x→(∀ i,i<j→cc i=false)→c2 Tryz.prog fv [bg x] (T j) (fun o K=>o = .ret (.bool (cc j))∧K=T (j+1))) :
  bu Tryz.prog 40 [.aA 1 (xs.map bg) .bd,fv] (T 0)
   (fun o K=>(o = .ret (.bool false)∧K=T xs.length∧∀ i,i<xs.length→cc i=false)∨∃ j,j<xs.length∧cc j=true∧(∀ i,i<j→cc i=false)∧o = .ret (.bool true)∧K=T (j+1)):=by
 refine bu.bp ak call40 Tryz.func40 C C fun s I=>?_
 refine dF ?_;refine aa.b0 rfl rfl rfl rfl rfl (PC fv xs T cc aI h) I (au.all _) ?_ (fun _ _ h _=>by rcases h with ⟨h,_⟩|⟨_,_,_,_,h,_⟩<;>cases h);rintro _ _ (⟨⟨⟩,rfl,U⟩|⟨j,U,ae,al,⟨⟩,rfl⟩) I
 all_goals rw [List.append_nil] at I ⊢
 ·refine dO ?_
  exact Fin.bH I C aR (au.all _) (.inl ⟨rfl,rfl,U⟩)
 ·refine dO ?_
  exact Fin.bH I C (by simp;exact aR) (au.all _) (.inr ⟨j,U,ae,al,rfl,rfl⟩)
theorem PD (fv:ad) (q:Int→Bool) (xs:List Int) (aI:xs.length<bt) (h:∀ x∈xs,dM Tryz.prog fv [bg x] (.bool (q x))) :
  a7 Tryz.prog 40 [.aA 1 (xs.map bg) .bd,fv] (.bool (xs.any q)):=
 x7 (fun T cc dN=>H3 fv xs T cc aI dN) h
theorem PE (fv:ad) (xs:List (Int×Int)) (T:Nat→a6) (cc:Nat→Bool) (aI:xs.length<bt) (h:∀ j x,xs[j]? = some x→(∀ i,i<j→cc i=false)→c2 Tryz.prog fv [fr x] (T j) (fun o K=>o = .ret (.bool (cc j))∧K=T (j+1))) :
  bu Tryz.prog 241 [.aA 2 (xs.map fr) .bd,fv] (T 0)
   (fun o K=>(o = .ret (.int .i64 (-1))∧K=T xs.length∧∀ i,i<xs.length→cc i=false)∨∃ j,j<xs.length∧cc j=true∧(∀ i,i<j→cc i=false)∧o = .ret (.int .i64 (j:Int))∧K=T (j+1)):=by
 have an:=bQ;refine bu.bp ak call241 Tryz.func241 C C fun s I=>?_
 refine iO ?_;refine af.vK I (σ:=Nat) (fun j=>[(0,.aA 2 (xs.map fr) .bd),(1,fv),(7,.int .i64 xs.length),(8,.int .i64 (j:Int))]) T (fun j=>j≤xs.length∧∀ i,i<j→cc i=false) (fun j=>xs.length-j) 0 ⟨by omega,fun i aY=>by omega⟩ xS (au.all _) ?_;rintro j ⟨aS,aH⟩ I;refine cL ?_;refine af.cond C (fun aG=>?_) (fun bk=>?_)
 ·have aG:j<xs.length:=by simpa using aG
  obtain ⟨x,ab,ch⟩:=cD (f:=fr) aG;have av:=h j x ab aH
  try rw [fr] at ch av
  refine bP ?_;refine aa.fO rfl rfl rfl rfl rfl rfl av I (au.all _) ?_ (fun _ _ ⟨h,_⟩ _=>by cases h);rintro _ _ ⟨⟨⟩,rfl⟩ I;rw [List.append_nil] at I ⊢;cases mO:cc j with
  | true=>
   refine cC ?_;exact Fin.bH I C aR (au.all _) (.inr ⟨j,aG,mO,aH,rfl,rfl⟩)
  | false=>
   refine bP ?_
   exact bX.mk (j+1) I ⟨aG,fun i aY=>by
    rcases Nat.lt_succ_iff_lt_or_eq.1 aY with aY|rfl
    ·exact aH i aY
    ·exact mO⟩ c7 (au.all _) p2
 ·have bk:j=xs.length:=by
   have:xs.length≤j:=by simpa using bk
   omega
  subst bk;refine fJ ?_;exact Fin.bH I C aR (au.all _) (.inl ⟨rfl,rfl,aH⟩)
theorem PF (fv:ad) (xs:List (Int×Int)) (T:Nat→a6) (cc:Nat→Bool) (aI:xs.length<bt) (h:∀ j x,xs[j]? = some x→(∀ i,i<j→cc i=false)→c2 Tryz.prog fv [fr x] (T j) (fun o K=>o = .ret (.bool (cc j))∧K=T (j+1))) :
  bu Tryz.prog 207 [.aA 2 (xs.map fr) .bd,fv] (T 0)
   (fun o K=>(o = .ret (.bool false)∧K=T xs.length∧∀ i,i<xs.length→cc i=false)∨∃ j,j<xs.length∧cc j=true∧(∀ i,i<j→cc i=false)∧o = .ret (.bool true)∧K=T (j+1)):=by
 refine bu.bp ak call207 Tryz.func207 C C fun s I=>?_
 refine dF ?_;refine aa.b0 rfl rfl rfl rfl rfl (PE fv xs T cc aI h) I (au.all _) ?_ (fun _ _ h _=>by rcases h with ⟨h,_⟩|⟨_,_,_,_,h,_⟩<;>cases h);rintro _ _ (⟨⟨⟩,rfl,U⟩|⟨j,U,ae,al,⟨⟩,rfl⟩) I
 all_goals rw [List.append_nil] at I ⊢
 ·refine dO ?_
  exact Fin.bH I C aR (au.all _) (.inl ⟨rfl,rfl,U⟩)
 ·refine dO ?_
  exact Fin.bH I C (by simp;exact aR) (au.all _) (.inr ⟨j,U,ae,al,rfl,rfl⟩)
theorem PG (fv:ad) (q:(Int×Int)→Bool) (xs:List (Int×Int)) (aI:xs.length<bt) (h:∀ x∈xs,dM Tryz.prog fv [fr x] (.bool (q x))) :
  a7 Tryz.prog 207 [.aA 2 (xs.map fr) .bd,fv] (.bool (xs.any q)):=
 x7 (fun T cc dN=>PF fv xs T cc aI dN) h
theorem PH (fv:ad) (xs:List eW) (T:Nat→a6) (cc:Nat→Bool) (aI:xs.length<bt) (h:∀ j x,xs[j]? = some x→(∀ i,i<j→cc i=false)→c2 Tryz.prog fv [hV x] (T j) (fun o K=>o = .ret (.bool (cc j))∧K=T (j+1))) :
  bu Tryz.prog 264 [.aA 2 (xs.map hV) .bd,fv] (T 0)
   (fun o K=>(o = .ret (.int .i64 (-1))∧K=T xs.length∧∀ i,i<xs.length→cc i=false)∨∃ j,j<xs.length∧cc j=true∧(∀ i,i<j→cc i=false)∧o = .ret (.int .i64 (j:Int))∧K=T (j+1)):=by
 have an:=bQ;refine bu.bp ak call264 Tryz.func264 C C fun s I=>?_
 refine iO ?_;refine af.vK I (σ:=Nat) (fun j=>[(0,.aA 2 (xs.map hV) .bd),(1,fv),(7,.int .i64 xs.length),(8,.int .i64 (j:Int))]) T (fun j=>j≤xs.length∧∀ i,i<j→cc i=false) (fun j=>xs.length-j) 0 ⟨by omega,fun i aY=>by omega⟩ xS (au.all _) ?_;rintro j ⟨aS,aH⟩ I;refine cL ?_;refine af.cond C (fun aG=>?_) (fun bk=>?_)
 ·have aG:j<xs.length:=by simpa using aG
  obtain ⟨x,ab,ch⟩:=cD (f:=hV) aG;have av:=h j x ab aH
  try rw [hV] at ch av
  refine bP ?_;refine aa.fO rfl rfl rfl rfl rfl rfl av I (au.all _) ?_ (fun _ _ ⟨h,_⟩ _=>by cases h);rintro _ _ ⟨⟨⟩,rfl⟩ I;rw [List.append_nil] at I ⊢;cases mO:cc j with
  | true=>
   refine cC ?_;exact Fin.bH I C aR (au.all _) (.inr ⟨j,aG,mO,aH,rfl,rfl⟩)
  | false=>
   refine bP ?_
   exact bX.mk (j+1) I ⟨aG,fun i aY=>by
    rcases Nat.lt_succ_iff_lt_or_eq.1 aY with aY|rfl
    ·exact aH i aY
    ·exact mO⟩ c7 (au.all _) p2
 ·have bk:j=xs.length:=by
   have:xs.length≤j:=by simpa using bk
   omega
  subst bk;refine fJ ?_;exact Fin.bH I C aR (au.all _) (.inl ⟨rfl,rfl,aH⟩)
theorem PI (fv:ad) (xs:List eW) (T:Nat→a6) (cc:Nat→Bool) (aI:xs.length<bt) (h:∀ j x,xs[j]? = some x→(∀ i,i<j→cc i=false)→c2 Tryz.prog fv [hV x] (T j) (fun o K=>o = .ret (.bool (cc j))∧K=T (j+1))) :
  bu Tryz.prog 239 [.aA 2 (xs.map hV) .bd,fv] (T 0)
   (fun o K=>(o = .ret (.bool false)∧K=T xs.length∧∀ i,i<xs.length→cc i=false)∨∃ j,j<xs.length∧cc j=true∧(∀ i,i<j→cc i=false)∧o = .ret (.bool true)∧K=T (j+1)):=by
 refine bu.bp ak call239 Tryz.func239 C C fun s I=>?_
 refine dF ?_;refine aa.b0 rfl rfl rfl rfl rfl (PH fv xs T cc aI h) I (au.all _) ?_ (fun _ _ h _=>by rcases h with ⟨h,_⟩|⟨_,_,_,_,h,_⟩<;>cases h);rintro _ _ (⟨⟨⟩,rfl,U⟩|⟨j,U,ae,al,⟨⟩,rfl⟩) I
 all_goals rw [List.append_nil] at I ⊢
 ·refine dO ?_
  exact Fin.bH I C aR (au.all _) (.inl ⟨rfl,rfl,U⟩)
 ·refine dO ?_
  exact Fin.bH I C (by simp;exact aR) (au.all _) (.inr ⟨j,U,ae,al,rfl,rfl⟩)
theorem PJ (fv:ad) (q:eW→Bool) (xs:List eW) (aI:xs.length<bt) (h:∀ x∈xs,dM Tryz.prog fv [hV x] (.bool (q x))) :
  a7 Tryz.prog 239 [.aA 2 (xs.map hV) .bd,fv] (.bool (xs.any q)):=
 x7 (fun T cc dN=>PI fv xs T cc aI dN) h
end Go.Proofs.YtnafpeohfbglmaaGreat
namespace Go.bj
theorem H4 {s s1:aj} {w dU:World} {p jQ:bN} {T:TypeId} {v:Value} {b:Nat} (hle:cV w p dU jQ) (aD:Kept s s1 w p dU jQ) (b6:c0 dU jQ s1) (x8:dU.heap[b]? = some (.cells #[v] T (0,0)))
  (an:w.heap.size≤b) (aN:∀ o,¬ jQ b o) (aw:s1 b=none) (x:Value) :
  cV w p (dU.setRow b #[x]) jQ∧Kept s s1 w p (dU.setRow b #[x]) jQ∧c0 (dU.setRow b #[x]) jQ s1∧cV dU jQ (dU.setRow b #[x]) jQ∧(dU.setRow b #[x]).heap[b]? = some (.cells #[x] T (0,0)):=by
 have jM:c0 dU jQ (s1.set b (.box T [.any])):=by
  refine ⟨fun aT o dz=>?_,b6.lt⟩;by_cases e:aT=b
  ·subst e;rw [aj.fu] at dz;cases dz
   exact ⟨_,x8,.cons _ _ _ _ (.any v) .nil,aN⟩
  ·rw [aj.e5 _ _ e] at dz;exact b6.obj aT o dz
 obtain ⟨cz,dj,ft⟩:=tt jM (aj.fu _ _ _) (vs' := #[x]) (cs':=[.any]) (fun vs av=>by rw [x8] at av;cases av;rfl) (.cons _ _ _ _ (.any x) .nil) _ C;have PK:∀ aT,aT≠b→(dU.setRow b #[x]).heap[aT]? = dU.heap[aT]?:=by
  intro aT dz;simp only [World.setRow];rw [Array.getElem?_modify,if_neg (Ne.symm dz)]
 refine ⟨hle.trans cz,⟨fun aT dz aC=>(PK aT ai).trans (aD.heap aT dz aC),aD.jG,aD.j1⟩,ft.sub (fun aT=>?_),cz,?_⟩
 ·by_cases e:aT=b
  ·subst e;exact .inr aw
  ·left;rw [aj.e5 _ _ e,aj.e5 _ _ e]
 ·simp only [World.setRow]
  rw [Array.getElem?_modify,if_pos C,x8];rfl
theorem H5 {w:World} {b:Nat} {v x:Value} {T:TypeId} (h:w.heap[b]? = some (.cells #[v] T (0,0))):w.setCell ⟨b,0,none⟩ x=w.setRow b #[x]:=by
 simp only [World.setCell,World.setRow];congr 1;refine Array.ext_getElem? fun i=>?_
 rw [Array.getElem?_modify,Array.getElem?_modify];by_cases e:b=i
 ·subst e;rw [if_pos C,if_pos C,h];rfl
 ·rw [if_neg e,if_neg e]
theorem DK:∀ {rest:List PanicEntry},(∀ e∈rest,e.goexit=false)→rest.dropWhile (fun e => !e.goexit)=[]
 | [],_=>rfl
 | e::r,h=>by rw [List.dropWhile_cons,h e List.mem_cons_self];simp only [Bool.not_false,if_true];exact DK fun e' he=>h e' (List.mem_cons_of_mem _ he)
theorem af.use {P:Program} {N:Nat} {c:Code} {Q:b2→Env→aj→Prop} {env:Env} {s:aj} (h:af P N c Q env s) {b:Frame} {B:ff} {a:Act} {w:World} {p:bN} (ba:(P.funcs[b.fn]?).isSome=true) (aF:c9 N B b.roundOf env s a w p) :
  iG P b c (jl N B b.roundOf s w p Q) a w:=h b B a w p ba aF
theorem c2.frame {P:Program} {fv:ad} {args:List ad} {K L R:a6} {X3 D:eb→a6→Prop} (h:c2 P fv args K X3) (aw:au L K R) (tU:∀ o aL,X3 o aL→D o (aL++R)):c2 P fv args L D:=
 fun s I=>(h.at I aw).mono fun o ah ⟨PL,e,vR,aL,DL,DM⟩=>by
  subst DL;exact ⟨_,e,vR,tU o aL DM⟩
end Go.bj
namespace Go.bj
theorem aU.AS {P:Program} {Γ:cg} {N:Nat} {env:Env} {s:aj} {o:Oper} (aO:bL P Γ) {t yt e:TypeId} {x:Operand} {it:bJ} {sz:Nat} {xs:List ad} {own:bU} (ag:o.op = .binOp .eql t x (.const (.slice none 0 0)) yt)
  (aK:Γ.get? t=some it) (bo:it.bz = .aA e) (ab:aJ env x=some (.aA sz xs own)) {X:ad→aj→Prop} :
  aU P N o env s (fun r ah=>ah=s∧((r = .bool true∧xs=[])∨r = .bool false)) X:=by
 refine aU.jo (by simp [bj.fM,ag]) fun ro B a w p aF=>?_
 obtain ⟨info,d,U,ae,al,bl,bD,fG⟩:=aO.parts aK;have hu:=aF.aJ ab;have ar:∃ e,d = .slice e:=by
  rw [bo] at al;cases d<;>simp [dP] at al<;>exact ⟨_,rfl⟩
 obtain ⟨e',rfl⟩:=ar;have cx:∀ q,(binOp .eql t (a.eval x) (.slice none 0 0)).run P w = .ok (.bool q) w→(∀ c,a.eval x ≠ .agg c)→(execOp a.eval o).run P w = .ok (.value (.bool q)) w:=by
  intro q bs aE;unfold execOp;rw [ag];refine fU ?_;show (do eqGuard .eql t x (.const (.slice none 0 0)) (a.eval x) (.slice none 0 0);binOp .eql t (a.eval x) (.slice none 0 0):Sem Value).run P w=_;rw [Sem.run_bind,qR w ⟨fun _=>⟨_,rfl⟩,aE⟩,Result.andThen_ok,bs]
 generalize a.eval x=dr at hu cx;cases hu with
 | gU _ _ _=>exact ⟨_,_,s,p,.bool true,cx true (tl C C (fun d=>by simp [Op.equalIn,run_underlying ae])).1 bn,.refl w p,.refl s w p,aF.wf,⟨rfl,.inl ⟨rfl,rfl⟩⟩,.bool _⟩
 | hE a _ _ _=>exact ⟨_,_,s,p,.bool false,cx false (tl C C (fun d=>by simp [Op.equalIn,run_underlying ae])).1 bn,.refl w p,.refl s w p,aF.wf,⟨rfl,.inr C⟩,.bool _⟩
 | aA g off n cap _ vs _ _ aC aI aE az aw hm aD cE ag=>exact ⟨_,_,s,p,.bool false,cx false (tl C C (fun d=>by simp [Op.equalIn,run_underlying ae])).1 bn,.refl w p,.refl s w p,aF.wf,⟨rfl,.inr C⟩,.bool _⟩
end Go.bj
namespace Go.bj
def aM (J:aj→Prop) (P:Program) (Γ:cg) (N:Nat) (l:List Oper) (i:Nat) (rest:List Oper) (Q:b2→Env→aj→Prop) (env:Env) (s:aj):Prop:=
 pX l.toArray=true→l.drop i=rest→J s→bm J P Γ N l.toArray Q (bR (2^i-1)) env s
theorem AT (i:Nat):(2^i-1)|||2^i=2^(i+1)-1:=by
 apply Nat.eq_of_testBit_eq;intro j;rw [Nat.testBit_or,Nat.testBit_two_pow_sub_one,Nat.testBit_two_pow_sub_one,Nat.testBit_two_pow];by_cases h:i=j
 ·subst h;simp
 ·by_cases ae:j<i
  ·simp [ae];omega
  ·simp [ae,h];omega
theorem uk {α:Type} {l:List α} {i:Nat} {o:α} {rest:List α} (h:l.drop i=o::rest):l[i]? = some o∧l.drop (i+1)=rest:=by
 have U:l[i]? = some o:=by
  have:=congrArg (fun x=>x[0]?) h;simpa using this
 refine ⟨U,?_⟩;have:l.drop (i+1)=(l.drop i).drop 1:=by rw [List.drop_drop]
 rw [this,h];rfl
theorem DN {l:List Oper} (dc:pX l.toArray=true) {i:Nat} {o:Oper} (ag:l[i]? = some o):gh l.toArray (bR (2^i-1)) i:=by
 refine ⟨by simpa using (List.getElem?_eq_some_iff.1 ag).1,?_,fun j aS=>?_⟩
 ·simp [bR,Nat.testBit_two_pow_sub_one]
 ·have:=(C1 dc).back i j aS
  simp [bR,Nat.testBit_two_pow_sub_one,this]
section
variable {J:aj→Prop} {P:Program} {Γ:cg} {N:Nat} {l:List Oper} {i:Nat} {rest:List Oper} {Q:b2→Env→aj→Prop} {env:Env} {s:aj} {o:Oper} {d:Nat}
theorem af.ky (aO:bL P Γ) (hm:P.follows .mixedOrders=true) {id:Nat} (dc:pX l.toArray=true) (h:aM (fun ah=>ah=s) P Γ N l 0 l Q env s):af P N (.region id l.toArray true) Q env s:=
 af.o3 _ aO hm dc (h dc C C)
theorem af.vL (aO:bL P Γ) (hm:P.follows .mixedOrders=true) {id:Nat} (dc:pX l.toArray=true) (h:aM me P Γ N l 0 l Q env s):af P N (.region id l.toArray true) Q env s:=
 af.o3 _ aO hm dc (h dc C trivial)
theorem aM.nil (h:Q .normal env s):aM J P Γ N l i [] Q env s:=fun dc il _=>by
 refine bm.fin (fun j aS=>?_) h;have:l.length≤i:=by simpa using il
 have aS:j<l.length:=by simpa using aS
 simp [bR,Nat.testBit_two_pow_sub_one];omega
theorem aM.still {v:ad} (ar:o.dst=some d) (aX:d<N) (av:Still J P Γ N l.toArray o (bc env (looks l.toArray o)) v) (h:aM J P Γ N l (i+1) rest Q ((d,v)::env) s):aM J P Γ N l i (o::rest) Q env s:=fun dc il dX=>by
 obtain ⟨ag,pb⟩:=uk il;refine bm.still dX i o d v (DN dc ag) (by simpa using ag) ar aX av ?_;rw [np,AT];exact h dc pb dX
theorem aM.step {v:ad} (aK:tN Γ N l.toArray (bc env (looks l.toArray o)) o=some (d,v)) (h:aM J P Γ N l (i+1) rest Q ((d,v)::env) s):aM J P Γ N l i (o::rest) Q env s:=by
 obtain ⟨U,ae,al⟩:=Ag (J:=J) (P:=P) aK;exact aM.still U ae al h
def runK (Γ:cg) (N:Nat) (ops:Array Oper):List Oper→Nat→Env→List Oper×Nat×Env
  | [],i,env=>([],i,env)
  | o::l,i,env=>match tN Γ N ops (bc env (looks ops o)) o with
    | some (d,v)=>runK Γ N ops l (i+1) ((d,v)::env)
    | none=>(o::l,i,env)
theorem aM.run {H6:List Oper} {zI:Nat} {er:Env} (h:runK Γ N l.toArray rest i env=(H6,zI,er)) (aD:aM J P Γ N l zI H6 Q er s):aM J P Γ N l i rest Q env s:=by
 induction rest generalizing i env with
 | nil=>simp only [runK,Prod.mk.injEq] at h;obtain ⟨rfl,rfl,rfl⟩:=h;exact aD
 | cons o r a'=>
  simp only [runK] at h;split at h
  ·rename_i d v aK
   exact aM.step aK (a' h)
  ·simp only [Prod.mk.injEq] at h;obtain ⟨rfl,rfl,rfl⟩:=h;exact aD
theorem aM.pure {v:ad} (ao:guardOf l.toArray (bc env (looks l.toArray o)) o=some true) (ar:o.dst=some d) (aX:Nat.blt d N=true) (av:kq Γ o (bc env (looks l.toArray o)) v) (h:aM J P Γ N l (i+1) rest Q ((d,v)::env) s):aM J P Γ N l i (o::rest) Q env s:=
 aM.still ar Aj (.inl ⟨ao,av⟩) h
theorem aM.hI {v:ad} (ao:guardOf l.toArray (bc env (looks l.toArray o)) o=some true) (ar:o.dst=some d) (aX:Nat.blt d N=true) (av:tC Γ o (bc env (looks l.toArray o))=some v) (h:aM J P Γ N l (i+1) rest Q ((d,v)::env) s):aM J P Γ N l i (o::rest) Q env s:=
 aM.pure ao ar aX (.x av) h
theorem aM.calm {v:ad} (ao:guardOf l.toArray (bc env (looks l.toArray o)) o=some true) (ar:o.dst=some d) (aX:Nat.blt d N=true) (av:∀ s,J s→aU P N o (bc env (looks l.toArray o)) s (fun x ah=>x=v∧ah=s) (fun _ _=>False)) (h:aM J P Γ N l (i+1) rest Q ((d,v)::env) s):aM J P Γ N l i (o::rest) Q env s:=
 aM.still ar Aj (.inr (.inr ⟨ao,av⟩)) h
theorem aM.idx {t e:TypeId} {x y:Operand} {it aB:bJ} {sz:Nat} {xs:List ad} {own:bU} {k:IntKind} {n:Int} (j:Nat) {v:ad} {cs:List ad} (ao:guardOf l.toArray (bc env (looks l.toArray o)) o=some true) (ar:o.dst=some d) (aX:Nat.blt d N=true) (bW:o.op = .indexAddr t x y) (aK:Γ.get? t=some it) (bo:it.bz = .aA e) (bF:Γ.get? e=some aB)
  (ab:aJ (bc env (looks l.toArray o)) x=some (.aA sz xs own)) (b7:sz=aB.size) (ay:aJ (bc env (looks l.toArray o)) y=some (.int k n)) (ek:n=(j:Int)) (aS:xs[j]? = some v) (aE:cellsOf v=some cs)
  (h:aM J P Γ N l (i+1) rest Q ((d,.bq cs 0)::env) s):aM J P Γ N l i (o::rest) Q env s:=
 aM.pure ao ar aX (.idx j bW aK bo bF ab b7 ay ek aS aE) h
theorem aM.slice {t e:TypeId} {x:Operand} {jJ aY ig:Option Operand} {it aB:bJ} {sz:Nat} {xs:List ad} {own cZ:bU} (a b:Nat) (ao:guardOf l.toArray (bc env (looks l.toArray o)) o=some true) (ar:o.dst=some d) (aX:Nat.blt d N=true)
  (bW:o.op = .slice t x jJ aY ig)
  (aK:Γ.get? t=some it) (bo:it.bz = .aA e) (bF:Γ.get? e=some aB) (ab:aJ (bc env (looks l.toArray o)) x=some (.aA sz xs own)) (b7:xs=[]∨sz=aB.size)
  (hH:(jJ=none∧a=0)∨∃ y k,jJ=some y∧aJ (bc env (looks l.toArray o)) y=some (.int k (a:Int))) (oW:(aY=none∧ig=none∧b=xs.length)∨∃ y k,aY=some y∧aJ (bc env (looks l.toArray o)) y=some (.int k (b:Int)))
  (l9:(ig=none∧cZ = .bd)∨(∃ y k,ig=some y∧aJ (bc env (looks l.toArray o)) y=some (.int k (b:Int))∧cZ = .clip)) (aI:a≤b) (c':b≤xs.length)
  (h:aM J P Γ N l (i+1) rest Q ((d,.aA sz ((xs.take b).drop a) cZ)::env) s):aM J P Γ N l i (o::rest) Q env s:=
 aM.pure ao ar aX (.slice a b bW aK bo bF ab b7 hH oW l9 aI c') h
theorem aM.eB {f:FuncId} {fi:Array Operand} {cP:Array TypeId} {xs:List ad} {v:ad} (ao:guardOf l.toArray (bc env (looks l.toArray o)) o=some true) (ar:o.dst=some d) (aX:Nat.blt d N=true)
  (bW:o.op = .call { callee := .value (.func f),args:=fi,argTypes:=cP }) (aV:fg (bc env (looks l.toArray o)) fi.toList=some xs) (aE:a7 P f xs v) (h:aM J P Γ N l (i+1) rest Q ((d,v)::env) s):aM J P Γ N l i (o::rest) Q env s:=
 aM.calm ao ar aX (fun s _=>(aU.call bW (fv := .func f [] []) rfl aV (gM.eP (R:=fun o ah=>o = .ret v∧ah=s) (by simpa using aE s))).mono (fun x ah h=>by cases h.1;exact ⟨rfl,h.2⟩) (fun x ah h=>by cases h.1)) h
theorem aM.kx {g:Operand} {fv:ad} {fi:Array Operand} {cP:Array TypeId} {xs:List ad} {v:ad} (ao:guardOf l.toArray (bc env (looks l.toArray o)) o=some true) (ar:o.dst=some d) (aX:Nat.blt d N=true)
  (bW:o.op = .call { callee := .value g,args:=fi,argTypes:=cP }) (av:aJ (bc env (looks l.toArray o)) g=some fv) (aV:fg (bc env (looks l.toArray o)) fi.toList=some xs) (aE:dM P fv xs v) (h:aM J P Γ N l (i+1) rest Q ((d,v)::env) s):aM J P Γ N l i (o::rest) Q env s:=
 aM.calm ao ar aX (fun s _=>(aU.call bW av aV (aE s)).mono (fun x ah h=>by cases h.1;exact ⟨rfl,h.2⟩) (fun x ah h=>by cases h.1)) h
theorem aM.dS {L R:a6} (aO:bL P Γ) (I:Ok s L) {t T:TypeId} {x:Operand} {dm:bJ} {b off:Nat} {cs:List ad} {v:ad} (ao:guardOf l.toArray (bc env (looks l.toArray o)) o=some true) (ar:o.dst=some d) (aX:Nat.blt d N=true)
  (bW:o.op = .load t x) (aK:Γ.get? t=some dm) (ab:aJ (bc env (looks l.toArray o)) x=some (.ptr b off)) (aw:aP L (.own b) (.box T cs) R) (av:gI dm cs off=some v)
  (h:aM (fun ah=>ah=aQ s L) P Γ N l (i+1) rest Q ((d,v)::env) (aQ s L)):aM (fun ah=>ah=aQ s L) P Γ N l i (o::rest) Q env (aQ s L):=
 aM.calm ao ar aX (fun _ e=>by subst e;exact aU.dS aO I bW aK ab aw av) h
theorem aM.split (t:Nat) {b:Bool} (av:env.get? t=some (.bool b)) (dN:b=true→aM J P Γ N l i rest Q ((t,.bool true)::env) s) (ns:b=false→aM J P Γ N l i rest Q ((t,.bool false)::env) s):aM J P Γ N l i rest Q env s:=by
 have U:∀ u,Env.get? ((t,.bool b)::env) u=env.get? u:=fun u=>by
  rw [Env.get?];split
  ·rename_i hu;rw [← Nat.eq_of_beq_eq_true hu];exact av.symm
  ·rfl
 intro dc il dX;refine bm.congr _ U ?_;cases b with
 | true=>exact dN C dc il dX
 | false=>exact ns C dc il dX
theorem aM.iB {t:Nat} {b:Bool} (aw:Hn l.toArray o=some t) (av:env.get? t=some (.bool b)) (dN:b=true→aM J P Γ N l i (o::rest) Q ((t,.bool true)::env) s) (ns:b=false→aM J P Γ N l i (o::rest) Q ((t,.bool false)::env) s):aM J P Γ N l i (o::rest) Q env s:=
 aM.split t av dN ns
theorem aM.same (b:Bool) (ao:guardOf l.toArray (bc env (looks l.toArray o)) o=some b) (h:aM J P Γ N l i (o::rest) Q env s):aM J P Γ N l i (o::rest) Q env s:=h
theorem H7 {l:List Oper} (dc:pX l.toArray=true) {i:Nat} {o:Oper} (il:l.drop i=[o]):∀ j,gh l.toArray (bR (2^i-1)) j→j=i:=fun j aS=>by
 obtain ⟨ag,pb⟩:=uk il;have ae:l.length≤i+1:=by simpa using pb
 have al:j<l.length:=by simpa using aS.1
 have bl:=aS.2.1;simp [bR,Nat.testBit_two_pow_sub_one] at bl;omega
theorem H8 {l:List Oper} {i:Nat} {o:Oper} (il:l.drop i=[o]):∀ j,j<l.toArray.size→dA (bR (2^i-1)) i j=true:=fun j aS=>by
 obtain ⟨ag,pb⟩:=uk il;have ae:l.length≤i+1:=by simpa using pb
 have al:j<l.length:=by simpa using aS
 rw [np,AT];simp [bR,Nat.testBit_two_pow_sub_one];omega
theorem aM.last {K X:ad→aj→Prop} (ao:guardOf l.toArray (bc env (looks l.toArray o)) o=some true) (ar:o.dst=some d) (aX:Nat.blt d N=true) (kD:jL l.toArray i=true) (h:aU P N o (bc env (looks l.toArray o)) s K X)
  (aD:∀ x ah,K x ah→Q .normal ((d,x)::env) ah) (ab:∀ x ah,X x ah→Q (.panic x) [] ah):aM J P Γ N l i [o] Q env s:=fun dc il _=>by
 obtain ⟨ag,pb⟩:=uk il;have h3:=DN dc ag;have fq:=H7 dc il;refine bm.split (fun _=>K) (fun _=>X) ⟨i,h3.1,h3.2.1⟩ (fun j o' aS ck=>?_) (fun j o' tO ck x ah br=>by have:=fq j tO;subst this;exact .inr (Ai kD)) (fun j o' cM aS ck cb x ah br=>?_) (fun j o' aS ck cb x ah br=>?_) (fun j o' aS ck x ah fZ=>ab x ah fZ)
 ·have:=fq j aS;subst this
  have ck:l[j]? = some o':=by simpa using ck
  rw [ag] at ck;cases ck;exact ⟨ao,h,fun cM cb=>by rw [ar] at cb;cases cb;simpa [Nat.blt_eq] using aX⟩
 ·have:=fq j aS;subst this
  have ck:l[j]? = some o':=by simpa using ck
  rw [ag] at ck;cases ck;rw [ar] at cb;cases cb;exact bm.fin (H8 il) (aD x ah br)
 ·have:=fq j aS;subst this
  have ck:l[j]? = some o':=by simpa using ck
  rw [ag] at ck;cases ck;rw [ar] at cb;cases cb
theorem aM.DO {K X:ad→aj→Prop} (ao:guardOf l.toArray (bc env (looks l.toArray o)) o=some true) (ar:o.dst=none) (kD:jL l.toArray i=true) (h:aU P N o (bc env (looks l.toArray o)) s K X)
  (aD:∀ x ah,K x ah→Q .normal env ah) (ab:∀ x ah,X x ah→Q (.panic x) [] ah):aM J P Γ N l i [o] Q env s:=fun dc il _=>by
 obtain ⟨ag,pb⟩:=uk il;have h3:=DN dc ag;have fq:=H7 dc il;refine bm.split (fun _=>K) (fun _=>X) ⟨i,h3.1,h3.2.1⟩ (fun j o' aS ck=>?_) (fun j o' tO ck x ah br=>by have:=fq j tO;subst this;exact .inr (Ai kD)) (fun j o' cM aS ck cb x ah br=>?_) (fun j o' aS ck cb x ah br=>?_) (fun j o' aS ck x ah fZ=>ab x ah fZ)
 ·have:=fq j aS;subst this
  have ck:l[j]? = some o':=by simpa using ck
  rw [ag] at ck;cases ck;exact ⟨ao,h,fun cM cb=>by rw [ar] at cb;cases cb⟩
 ·have:=fq j aS;subst this
  have ck:l[j]? = some o':=by simpa using ck
  rw [ag] at ck;cases ck;rw [ar] at cb;cases cb
 ·have:=fq j aS;subst this
  have ck:l[j]? = some o':=by simpa using ck
  rw [ag] at ck;cases ck;exact bm.fin (H8 il) (aD x ah br)
theorem aM.cF {L R:a6} (aO:bL P Γ) (I:Ok s L) {t T:TypeId} {x y:Operand} {dm:bJ} {b off:Nat} {cs us:List ad} {v:ad} (ao:guardOf l.toArray (bc env (looks l.toArray o)) o=some true) (ar:o.dst=none) (kD:jL l.toArray i=true)
  (bW:o.op = .store t x y) (aK:Γ.get? t=some dm) (ab:aJ (bc env (looks l.toArray o)) x=some (.ptr b off)) (ay:aJ (bc env (looks l.toArray o)) y=some v)
  (av:cellsOf v=some us) (hu:Nat.beq us.length dm.size=true) (U:us.all eN=true) (aw:aP L (.own b) (.box T cs) R) (eU:Nat.ble (off+us.length) cs.length=true)
  (h:Ok s ((.own b,.box T (eg off us cs))::R)→Q .normal env (aQ s ((.own b,.box T (eg off us cs))::R))):aM J P Γ N l i [o] Q env (aQ s L):=
 aM.DO ao ar kD (aU.cF aO I bW aK ab ay av hu U aw eU (X:=fun _ _=>False)) (fun x ah ⟨U,ae⟩=>by subst U;exact h ae) (fun _ _ h=>h.elim)
theorem aM.b0 {L R K:a6} {X3:eb→a6→Prop} {f:FuncId} {fi:Array Operand} {cP:Array TypeId} {xs:List ad} (ao:guardOf l.toArray (bc env (looks l.toArray o)) o=some true) (ar:o.dst=some d) (aX:Nat.blt d N=true) (kD:jL l.toArray i=true)
  (bW:o.op = .call { callee := .value (.func f),args:=fi,argTypes:=cP }) (aV:fg (bc env (looks l.toArray o)) fi.toList=some xs) (h:bu P f xs K X3) (I:Ok s L) (aw:au L K R)
  (aD:∀ x aL,X3 (.ret x) aL→Ok s (aL++R)→Q .normal ((d,x)::env) (aQ s (aL++R))) (ab:∀ x aL,X3 (.panic x) aL→Ok s (aL++R)→Q (.panic x) [] (aQ s (aL++R))):aM J P Γ N l i [o] Q env (aQ s L):=
 aM.last ao ar aX kD (aU.b0 bW aV h I aw) (fun x ah ⟨aL,U,ae,al⟩=>by subst U;exact aD x aL al ae) (fun x ah ⟨aL,U,ae,al⟩=>by subst U;exact ab x aL al ae)
theorem aM.vS {K X:ad→aj→Prop} (ao:guardOf l.toArray (bc env (looks l.toArray o)) o=some true) (ar:o.dst=some d) (aX:Nat.blt d N=true) (az:ed l.toArray (2^i-1) (idxs 0 l)=[i]) (h:aU P N o (bc env (looks l.toArray o)) s K X) (aS:∀ x ah,K x ah→J ah)
  (aD:∀ x ah,K x ah→aM J P Γ N l (i+1) rest Q ((d,x)::env) ah) (ab:∀ x ah,X x ah→Q (.panic x) [] ah):aM J P Γ N l i (o::rest) Q env s:=fun dc il _=>by
 obtain ⟨ag,pb⟩:=uk il;refine bm.one az (by simpa using ag) ar aX ao h (fun x ah br => .inl (aS x ah br)) (fun x ah br=>?_) ab;rw [AT];exact aD x ah br dc pb (aS x ah br)
theorem aM.H9 {K X:ad→aj→Prop} (ao:guardOf l.toArray (bc env (looks l.toArray o)) o=some true) (ar:o.dst=none) (az:ed l.toArray (2^i-1) (idxs 0 l)=[i]) (h:aU P N o (bc env (looks l.toArray o)) s K X) (aS:∀ x ah,K x ah→J ah)
  (aD:∀ x ah,K x ah→aM J P Γ N l (i+1) rest Q env ah) (ab:∀ x ah,X x ah→Q (.panic x) [] ah):aM J P Γ N l i (o::rest) Q env s:=fun dc il _=>by
 obtain ⟨ag,pb⟩:=uk il;refine bm.vE az (by simpa using ag) ar ao h (fun x ah br => .inl (aS x ah br)) (fun x ah br=>?_) ab;rw [AT];exact aD x ah br dc pb (aS x ah br)
theorem aM.DP {L:a6} (aO:bL P Γ) (I:Ok s L) {t:TypeId} {dm:bJ} {z:ad} {cs:List ad} (ao:guardOf l.toArray (bc env (looks l.toArray o)) o=some true) (ar:o.dst=some d) (aX:Nat.blt d N=true) (az:ed l.toArray (2^i-1) (idxs 0 l)=[i])
  (bW:o.op = .alloc t) (aK:Γ.get? t=some dm) (bE:gy dm.zero=some z) (aE:cellsOf z=some cs)
  (h:∀ b,Ok s ((.own b,.box t cs)::L)→aM me P Γ N l (i+1) rest Q ((d,.ptr b 0)::env) (aQ s ((.own b,.box t cs)::L))):aM me P Γ N l i (o::rest) Q env (aQ s L):=
 aM.vS ao ar aX az (aU.dE aO I bW aK bE aE (X:=fun _ _=>False)) (fun _ _ _=>trivial) (fun x ah ⟨b,U,ae,al⟩=>by subst U;subst ae;exact h b al) (fun _ _ h=>h.elim)
theorem aM.storeT {L R:a6} (aO:bL P Γ) (I:Ok s L) {t T:TypeId} {x y:Operand} {dm:bJ} {b off:Nat} {cs us:List ad} {v:ad} (ao:guardOf l.toArray (bc env (looks l.toArray o)) o=some true) (ar:o.dst=none) (az:ed l.toArray (2^i-1) (idxs 0 l)=[i])
  (bW:o.op = .store t x y) (aK:Γ.get? t=some dm) (ab:aJ (bc env (looks l.toArray o)) x=some (.ptr b off)) (ay:aJ (bc env (looks l.toArray o)) y=some v)
  (av:cellsOf v=some us) (hu:Nat.beq us.length dm.size=true) (U:us.all eN=true) (aw:aP L (.own b) (.box T cs) R) (eU:Nat.ble (off+us.length) cs.length=true)
  (h:Ok s ((.own b,.box T (eg off us cs))::R)→aM me P Γ N l (i+1) rest Q env (aQ s ((.own b,.box T (eg off us cs))::R))):aM me P Γ N l i (o::rest) Q env (aQ s L):=
 aM.H9 ao ar az (aU.cF aO I bW aK ab ay av hu U aw eU (X:=fun _ _=>False)) (fun _ _ _=>trivial) (fun x ah ⟨U,ae⟩=>by subst U;exact h ae) (fun _ _ h=>h.elim)
theorem aM.loadT {L R:a6} (aO:bL P Γ) (I:Ok s L) {t T:TypeId} {x:Operand} {dm:bJ} {b off:Nat} {cs:List ad} {v:ad} (ao:guardOf l.toArray (bc env (looks l.toArray o)) o=some true) (ar:o.dst=some d) (aX:Nat.blt d N=true) (az:ed l.toArray (2^i-1) (idxs 0 l)=[i])
  (bW:o.op = .load t x) (aK:Γ.get? t=some dm) (ab:aJ (bc env (looks l.toArray o)) x=some (.ptr b off)) (aw:aP L (.own b) (.box T cs) R) (av:gI dm cs off=some v)
  (h:aM me P Γ N l (i+1) rest Q ((d,v)::env) (aQ s L)):aM me P Γ N l i (o::rest) Q env (aQ s L):=
 aM.vS ao ar aX az (aU.dS aO I bW aK ab aw av (X:=fun _ _=>False)) (fun _ _ _=>trivial) (fun x ah ⟨U,ae⟩=>by subst U;subst ae;exact h) (fun _ _ h=>h.elim)
theorem aM.PM {L R K:a6} {X3:eb→a6→Prop} {f:FuncId} {fi:Array Operand} {cP:Array TypeId} {xs:List ad} (ao:guardOf l.toArray (bc env (looks l.toArray o)) o=some true) (ar:o.dst=some d) (aX:Nat.blt d N=true) (az:ed l.toArray (2^i-1) (idxs 0 l)=[i])
  (bW:o.op = .call { callee := .value (.func f),args:=fi,argTypes:=cP }) (aV:fg (bc env (looks l.toArray o)) fi.toList=some xs) (h:bu P f xs K X3) (I:Ok s L) (aw:au L K R)
  (aD:∀ x aL,X3 (.ret x) aL→Ok s (aL++R)→aM me P Γ N l (i+1) rest Q ((d,x)::env) (aQ s (aL++R))) (ab:∀ x aL,X3 (.panic x) aL→Ok s (aL++R)→Q (.panic x) [] (aQ s (aL++R))):aM me P Γ N l i (o::rest) Q env (aQ s L):=
 aM.vS ao ar aX az (aU.b0 bW aV h I aw) (fun _ _ _=>trivial) (fun x ah ⟨aL,U,ae,al⟩=>by subst U;exact aD x aL al ae) (fun x ah ⟨aL,U,ae,al⟩=>by subst U;exact ab x aL al ae)
end
end Go.bj
namespace Go.bj
def vT (i:bJ):Bool:=match i.bz with
 | .struct _=>false
 | .arr _ _=>false
 | .other=>false
 | _=>true
theorem PN {cs:List ad} {off:Nat} {v:ad} (h:cs[off]? = some v):oQ off cs=some (v::cs.drop (off+1)):=by
 induction off generalizing cs with
 | zero=>
  cases cs with
  | nil=>cases h
  | cons x r=>simp at h;subst h;rfl
 | succ n a'=>
  cases cs with
  | nil=>cases h
  | cons x r=>
   have:=a' (cs:=r) gn;simp only [oQ,List.drop_succ_cons];exact this
theorem lL {i:bJ} {cs:List ad} {off:Nat} {v:ad} (U:vT i=true) (h:cs[off]? = some v):gI i cs off=some v:=by
 unfold gI vT at *;rw [PN h];simp only;split at U<;>simp_all
section
variable {J:aj→Prop} {P:Program} {Γ:cg} {N:Nat} {ops:Array Oper} {l:List Oper} {i:Nat} {rest:List Oper} {Q:b2→Env→aj→Prop} {env:Env} {s:aj} {o:Oper} {d:Nat}
theorem aU.H' (aO:bL P Γ) {t:TypeId} {x:Operand} {dm:bJ} {off:Nat} {cs:List ad} {v:ad} (bW:o.op = .load t x) (aK:Γ.get? t=some dm) (ab:aJ env x=some (.bq cs off)) (av:gI dm cs off=some v) :
  aU P N o env s (fun x ah=>x=v∧ah=s) (fun _ _=>False):=
 aU.l2 (by simp [fM,bW]) fun ro B a w p aF=>GB aO aF bW aK ab av
theorem aa.x9 (aO:bL P Γ) {t:TypeId} {x:Operand} {dm:bJ} {off:Nat} {cs:List ad} {v:ad} (ao:guardOf ops env o=some true) (ar:o.dst=some d) (aX:Nat.blt d N=true) (bW:o.op = .load t x) (aK:Γ.get? t=some dm) (ab:aJ env x=some (.bq cs off)) (U:vT dm=true) (av:cs[off]? = some v)
  (h:aa P N ops rest Q ((d,v)::env) s):aa P N ops (o::rest) Q env s:=
 aa.op ao ar aX (aU.H' aO bW aK ab (lL U av)) (fun x ah ⟨U,ae⟩=>by subst U;subst ae;exact h) (fun _ _ h=>h.elim)
theorem aM.x9 (aO:bL P Γ) {t:TypeId} {x:Operand} {dm:bJ} {off:Nat} {cs:List ad} {v:ad} (ao:guardOf l.toArray (bc env (looks l.toArray o)) o=some true) (ar:o.dst=some d) (aX:Nat.blt d N=true) (bW:o.op = .load t x) (aK:Γ.get? t=some dm) (ab:aJ (bc env (looks l.toArray o)) x=some (.bq cs off)) (U:vT dm=true) (av:cs[off]? = some v)
  (h:aM J P Γ N l (i+1) rest Q ((d,v)::env) s):aM J P Γ N l i (o::rest) Q env s:=
 aM.calm ao ar aX (fun s _=>aU.H' aO bW aK ab (lL U av)) h
theorem aa.kE {L R:a6} (aO:bL P Γ) (I:Ok s L) {t T:TypeId} {x:Operand} {dm:bJ} {b off:Nat} {cs:List ad} {v:ad} (ao:guardOf ops env o=some true) (ar:o.dst=some d) (aX:Nat.blt d N=true) (bW:o.op = .load t x) (aK:Γ.get? t=some dm) (ab:aJ env x=some (.ptr b off)) (aw:aP L (.own b) (.box T cs) R) (U:vT dm=true) (av:cs[off]? = some v)
  (h:aa P N ops rest Q ((d,v)::env) (aQ s L)):aa P N ops (o::rest) Q env (aQ s L):=
 aa.dS aO I ao ar aX bW aK ab aw (lL U av) h
theorem aM.kE {L R:a6} (aO:bL P Γ) (I:Ok s L) {t T:TypeId} {x:Operand} {dm:bJ} {b off:Nat} {cs:List ad} {v:ad} (ao:guardOf l.toArray (bc env (looks l.toArray o)) o=some true) (ar:o.dst=some d) (aX:Nat.blt d N=true) (bW:o.op = .load t x) (aK:Γ.get? t=some dm) (ab:aJ (bc env (looks l.toArray o)) x=some (.ptr b off)) (aw:aP L (.own b) (.box T cs) R) (U:vT dm=true) (av:cs[off]? = some v)
  (h:aM (fun ah=>ah=aQ s L) P Γ N l (i+1) rest Q ((d,v)::env) (aQ s L)):aM (fun ah=>ah=aQ s L) P Γ N l i (o::rest) Q env (aQ s L):=
 aM.dS aO I ao ar aX bW aK ab aw (lL U av) h
theorem aM.kB (aO:bL P Γ) {t e:TypeId} {x y:Operand} {it aB:bJ} {k:IntKind} {len off:Nat} {cs:List ad} {z:Int} (j:Nat) (ao:guardOf l.toArray (bc env (looks l.toArray o)) o=some true) (ar:o.dst=some d) (aX:Nat.blt d N=true) (ag:o.op = .indexAddr t x y) (aK:Γ.get? t=some it) (bo:it.bz = .arr len e) (bF:Γ.get? e=some aB) (ab:aJ (bc env (looks l.toArray o)) x=some (.bq cs off)) (ay:aJ (bc env (looks l.toArray o)) y=some (.int k z)) (ek:z=(j:Int)) (aS:j<len)
  (h:aM J P Γ N l (i+1) rest Q ((d,.bq cs (off+j*aB.size))::env) s):aM J P Γ N l i (o::rest) Q env s:=
 aM.calm ao ar aX (fun s _=>aU.kB aO ag aK bo bF ab ay ek aS) h
theorem aM.arr (aO:bL P Γ) {t e:TypeId} {x y:Operand} {it aB:bJ} {k:IntKind} {len b off:Nat} {z:Int} (j:Nat) (ao:guardOf l.toArray (bc env (looks l.toArray o)) o=some true) (ar:o.dst=some d) (aX:Nat.blt d N=true) (ag:o.op = .indexAddr t x y) (aK:Γ.get? t=some it) (bo:it.bz = .arr len e) (bF:Γ.get? e=some aB) (ab:aJ (bc env (looks l.toArray o)) x=some (.ptr b off)) (ay:aJ (bc env (looks l.toArray o)) y=some (.int k z)) (ek:z=(j:Int)) (aS:j<len)
  (h:aM J P Γ N l (i+1) rest Q ((d,.ptr b (off+j*aB.size))::env) s):aM J P Γ N l i (o::rest) Q env s:=
 aM.calm ao ar aX (fun s _=>aU.arr aO ag aK bo bF ab ay ek aS) h
theorem aM.kF {L R:a6} (aO:bL P Γ) (I:Ok s L) {t T:TypeId} {x y:Operand} {dm:bJ} {b off:Nat} {cs us:List ad} {v:ad} (cs':List ad) (ao:guardOf l.toArray (bc env (looks l.toArray o)) o=some true) (ar:o.dst=none) (kD:jL l.toArray i=true)
  (bW:o.op = .store t x y) (aK:Γ.get? t=some dm) (ab:aJ (bc env (looks l.toArray o)) x=some (.ptr b off)) (ay:aJ (bc env (looks l.toArray o)) y=some v)
  (av:cellsOf v=some us) (hu:Nat.beq us.length dm.size=true) (U:us.all eN=true) (aw:aP L (.own b) (.box T cs) R) (eU:off+us.length≤cs.length) (he:eg off us cs=cs')
  (h:Ok s ((.own b,.box T cs')::R)→Q .normal env (aQ s ((.own b,.box T cs')::R))):aM J P Γ N l i [o] Q env (aQ s L):=by
 subst he;exact aM.cF aO I ao ar kD bW aK ab ay av hu U aw (by simpa [Nat.ble_eq] using eU) h
theorem aa.kF {L R:a6} (aO:bL P Γ) (I:Ok s L) {t T:TypeId} {x y:Operand} {dm:bJ} {b off:Nat} {cs us:List ad} {v:ad} (cs':List ad) (ao:guardOf ops env o=some true) (ar:o.dst=none)
  (bW:o.op = .store t x y) (aK:Γ.get? t=some dm) (ab:aJ env x=some (.ptr b off)) (ay:aJ env y=some v)
  (av:cellsOf v=some us) (hu:Nat.beq us.length dm.size=true) (U:us.all eN=true) (aw:aP L (.own b) (.box T cs) R) (eU:off+us.length≤cs.length) (he:eg off us cs=cs')
  (h:Ok s ((.own b,.box T cs')::R)→aa P N ops rest Q env (aQ s ((.own b,.box T cs')::R))):aa P N ops (o::rest) Q env (aQ s L):=by
 subst he;exact aa.cF aO I ao ar bW aK ab ay av hu U aw (by simpa [Nat.ble_eq] using eU) h
theorem ru {off:Nat} {v:ad}:∀ {cs:List ad},eg off [v] cs=cs.set off v:=by
  induction off with
  | zero=>intro cs;cases cs<;>rfl
  | succ n a'=>intro cs;cases cs with
    | nil=>rfl
    | cons x r=>exact congrArg (x :: ·) (a' (cs:=r))
theorem aa.iC {f:FuncId} {fi:Array Operand} {cP:Array TypeId} {xs ys:List ad} {v:ad} (ao:guardOf ops env o=some true) (ar:o.dst=some d) (aX:Nat.blt d N=true)
  (bW:o.op = .call { callee := .value (.func f),args:=fi,argTypes:=cP }) (aV:fg env fi.toList=some xs) (h:a7 P f ys v) (aI:cA xs ys) (aD:aa P N ops rest Q ((d,v)::env) s):aa P N ops (o::rest) Q env s:=
 aa.eB ao ar aX bW aV (a7.args aI h) aD
theorem aM.iC {f:FuncId} {fi:Array Operand} {cP:Array TypeId} {xs ys:List ad} {v:ad} (ao:guardOf l.toArray (bc env (looks l.toArray o)) o=some true) (ar:o.dst=some d) (aX:Nat.blt d N=true)
  (bW:o.op = .call { callee := .value (.func f),args:=fi,argTypes:=cP }) (aV:fg (bc env (looks l.toArray o)) fi.toList=some xs) (aE:a7 P f ys v) (aI:cA xs ys) (h:aM J P Γ N l (i+1) rest Q ((d,v)::env) s):aM J P Γ N l i (o::rest) Q env s:=
 aM.eB ao ar aX bW aV (a7.args aI aE) h
theorem af.p8 {L R:a6} (I:Ok s L) (b:Nat) {cQ:db} (aw:aP L (.own b) cQ R) (aO:bL P Γ) (hm:P.follows .mixedOrders=true) {id:Nat} (dc:pX l.toArray=true) (h:aM (fun ah=>ah b=some cQ) P Γ N l 0 l Q env (aQ s L)):af P N (.region id l.toArray true) Q env (aQ s L):=
 af.o3 _ aO hm dc (h dc C (aw.get I))
theorem aM.mJ (aO:bL P Γ) {t T:TypeId} {x:Operand} {dm:bJ} {b off:Nat} {cs:List ad} {v:ad} (ao:guardOf l.toArray (bc env (looks l.toArray o)) o=some true) (ar:o.dst=some d) (aX:Nat.blt d N=true)
  (bW:o.op = .load t x) (aK:Γ.get? t=some dm) (ab:aJ (bc env (looks l.toArray o)) x=some (.ptr b off)) (av:gI dm cs off=some v)
  (h:aM (fun ah=>ah b=some (.box T cs)) P Γ N l (i+1) rest Q ((d,v)::env) s):aM (fun ah=>ah b=some (.box T cs)) P Γ N l i (o::rest) Q env s:=
 aM.calm ao ar aX (fun s dX=>aU.r8 aO bW aK ab dX av) h
theorem aM.x' {L R K:a6} {X3:eb→a6→Prop} {b:Nat} {cQ:db} {g:Operand} {fv:ad} {fi:Array Operand} {cP:Array TypeId} {xs:List ad} (ao:guardOf l.toArray (bc env (looks l.toArray o)) o=some true) (ar:o.dst=some d) (aX:Nat.blt d N=true) (az:ed l.toArray (2^i-1) (idxs 0 l)=[i])
  (bW:o.op = .call { callee := .value g,args:=fi,argTypes:=cP }) (av:aJ (bc env (looks l.toArray o)) g=some fv) (aV:fg (bc env (looks l.toArray o)) fi.toList=some xs) (h:c2 P fv xs K X3) (I:Ok s L) (aw:au L K R)
  (aS:∀ x aL,X3 (.ret x) aL→∃ c4,aP (aL++R) (.own b) cQ c4)
  (aD:∀ x aL,X3 (.ret x) aL→Ok s (aL++R)→aM (fun ah=>ah b=some cQ) P Γ N l (i+1) rest Q ((d,x)::env) (aQ s (aL++R))) (ab:∀ x aL,X3 (.panic x) aL→Ok s (aL++R)→Q (.panic x) [] (aQ s (aL++R))):aM (fun ah=>ah b=some cQ) P Γ N l i (o::rest) Q env (aQ s L):=
 aM.vS ao ar aX az (aU.fO bW av aV h I aw) (fun x ah ⟨aL,U,ae,al⟩=>by subst U;obtain ⟨c4,gY⟩:=aS x aL al;exact gY.get ae) (fun x ah ⟨aL,U,ae,al⟩=>by subst U;exact aD x aL al ae) (fun x ah ⟨aL,U,ae,al⟩=>by subst U;exact ab x aL al ae)
theorem aM.PO {L R K:a6} {X3:eb→a6→Prop} {g:Operand} {fv:ad} {fi:Array Operand} {cP:Array TypeId} {xs:List ad} (ao:guardOf l.toArray (bc env (looks l.toArray o)) o=some true) (ar:o.dst=some d) (aX:Nat.blt d N=true) (az:ed l.toArray (2^i-1) (idxs 0 l)=[i])
  (bW:o.op = .call { callee := .value g,args:=fi,argTypes:=cP }) (av:aJ (bc env (looks l.toArray o)) g=some fv) (aV:fg (bc env (looks l.toArray o)) fi.toList=some xs) (h:c2 P fv xs K X3) (I:Ok s L) (aw:au L K R)
  (aD:∀ x aL,X3 (.ret x) aL→Ok s (aL++R)→aM me P Γ N l (i+1) rest Q ((d,x)::env) (aQ s (aL++R))) (ab:∀ x aL,X3 (.panic x) aL→Ok s (aL++R)→Q (.panic x) [] (aQ s (aL++R))):aM me P Γ N l i (o::rest) Q env (aQ s L):=
 aM.vS ao ar aX az (aU.fO bW av aV h I aw) (fun _ _ _=>trivial) (fun x ah ⟨aL,U,ae,al⟩=>by subst U;exact aD x aL al ae) (fun x ah ⟨aL,U,ae,al⟩=>by subst U;exact ab x aL al ae)
end
end Go.bj
namespace Go.bj
theorem PQ {w:World} {p:bN} {s:aj} (b6:c0 w p s) {vs:List Value} {xs:List ad} {sz cap:Nat} {e:TypeId} {cur:Array Value} (az:bO w p vs xs)
    (aw:∀ v∈vs,v.cells.size=sz) (ng:cur.size=cap*sz) (tz:cur.toList.take (xs.length*sz)=flat vs) (jt:xs.length≤cap) (hm:xs.length≤9223372036854775807) :
    ∃ bb,s w.heap.size=none∧cV w p (w.alloc (.cells cur e)) bb∧Kept s (s.set w.heap.size (.row e sz xs.length)) w p (w.alloc (.cells cur e)) bb ∧
      c0 (w.alloc (.cells cur e)) bb (s.set w.heap.size (.row e sz xs.length))∧Rel (w.alloc (.cells cur e)) bb (.slice (some ⟨w.heap.size,0,none⟩) xs.length cap) (.aA sz xs (.own w.heap.size)):=by
  have aC:s w.heap.size=none:=by
    cases h:s w.heap.size with
    | none=>rfl
    | some o'=>exact absurd (b6.obj _ _ h).lt ai
  let bb:bN:=fun b o=>p b o∨(b=w.heap.size∧o<xs.length*sz)
  have nh:(w.alloc (.cells cur e)).heap[w.heap.size]? = some (.cells cur e):=r2 w _;have hold:∀ b,b<w.heap.size→(w.alloc (.cells cur e)).heap[b]? = w.heap[b]? := fun b an=>kU w _ b an
  have hle:cV w p (w.alloc (.cells cur e)) bb:=cV.of_heap C C C bn (fun _ _ h => .inl h) b6.lt hold;have hlen:=tx aw;have hmul:xs.length*sz≤cap*sz:=Nat.mul_le_mul_right _ jt;refine ⟨bb,aC,hle,⟨fun b an _=>hold b an,fun b an aw=>by rw [aj.e5 _ _ ai];exact aw,fun b o an _ aN=>by rcases aN with aN|⟨rfl,_⟩;exact aN;omega⟩,?_,?_⟩
  · have ao:c0 (w.alloc (.cells cur e)) bb s:=b6.grow hle hold (fun b o an aN=>by rcases aN with aN|⟨rfl,_⟩;exact aN;omega) (fun b o aN=>by
      rcases aN with aN|⟨rfl,_⟩
      · have:=b6.lt b o aN;simp;omega
      · simp)
    refine ⟨fun b o an=>?_,ao.lt⟩;by_cases e':b=w.heap.size
    · subst e'
      rw [aj.fu] at an;cases an;refine ⟨cur,nh,by omega,⟨cap,ng⟩,fun o=>⟨fun aN=>?_,fun ag => .inr ⟨rfl,ag⟩⟩⟩;rcases aN with aN|⟨_,ag⟩
      · exact absurd (b6.lt _ _ aN) ai
      · exact ag
    · rw [aj.e5 _ _ e'] at an;exact ao.obj b o an
  · refine .aA _ 0 _ _ _ vs _ _ bn rfl ?_ (az.mono hle) aw hm jt (fun h=>by cases h) (fun b an=>?_)
    · intro i v av
      have aY:i<xs.length*sz:=by
        have:=(List.getElem?_eq_some_iff.1 av).1;rw [hlen,az.length] at this;exact this
      refine ⟨.inr ⟨rfl,by omega⟩,?_⟩;rw [Nat.zero_add,iz nh];rw [← tz,List.getElem?_take,if_pos aY] at av;simpa using av
    · cases an
      exact ⟨rfl,rfl,e,by simp only [World.jF,nh,ng]⟩
theorem Ia {z:Value} (h:z.cells = #[z]) (n:Nat):(madeCells z.cells n).toList=List.replicate n z:=by
 refine List.ext_getElem? fun i=>?_
 unfold madeCells;rw [h];simp only [Array.toList_map,Array.toList_range,List.getElem?_map,List.getElem?_replicate];by_cases aY:i<n
 ·rw [List.getElem?_range aY,if_pos aY]
  simp [Nat.mod_one]
 ·rw [List.getElem?_eq_none dq,if_neg aY];rfl
section
variable {P:Program} {Γ:cg} {N:Nat} {ops:Array Oper} {Q:b2→Env→aj→Prop} {env:Env} {s:aj} {l:List Oper} {o:Oper} {d:Nat} {L R:a6}
theorem Ib (aO:bL P Γ) {t e:TypeId} {it aB:bJ} (aK:Γ.get? t=some it) (bo:it.bz = .aA e) (bF:Γ.get? e=some aB) (l' oc:IntKind) (n c:Nat) (rv:n≤c) (an:c*aB.bytes≤140737488355328) (dY:c≤9223372036854775807) (w:World) :
  (Instr.makeSlice t (.int l' (n:Int)) (.int oc (c:Int))).run P w = .ok (.slice (some ⟨w.heap.size,0,none⟩) n c) (w.alloc (.cells (madeCells aB.zero.cells (c*aB.size)) e)):=by
 obtain ⟨info,d,g1,g2,g3,-⟩:=aO.parts aK;obtain ⟨iH,jq,cz,dj,ft,ej,kW,kX⟩:=aO.parts bF;have ar:d = .slice e:=by rw [bo] at g3;cases d<;>simp [dP] at g3;rw [g3]
 subst ar;have dz:(iH.bytes:Int)*(c:Int)≤281474976710656:=by
  rw [kW];have:((aB.bytes*c:Nat):Int)≤281474976710656:=by rw [Nat.mul_comm];omega
  rwa [Int.natCast_mul] at this
 have:=run_make (P:=P) w t e iH aB.zero g2 cz kX l' oc (n:Int) (c:Int) ai ai dz ai;rw [Int.toNat_natCast,Int.toNat_natCast,ej] at this;exact this
theorem aU.su (aO:bL P Γ) (I:Ok s L) {t e:TypeId} {x y:Operand} {it aB:bJ} {l' oc:IntKind} {z:ad} (n:Nat) (ag:o.op = .makeSlice t x y) (aK:Γ.get? t=some it) (bo:it.bz = .aA e) (bF:Γ.get? e=some aB) (U:aB.size=1)
  (sv:aB.zero.oneCell'=true) (bE:gy aB.zero=some z) (ab:aJ env x=some (.int l' (n:Int))) (ay:aJ env y=some (.int oc (n:Int))) (an:n*aB.bytes≤140737488355328) (dY:n≤9223372036854775807) {X:ad→aj→Prop} :
  aU P N o env (aQ s L) (fun r ah=>∃ b,r=dG b n n∧ah=aQ s ((.own b,.box e (List.replicate n z))::L)∧Ok s ((.own b,.box e (List.replicate n z))::L)) X:=by
 refine aU.jo h6 fun ro B a w p aF=>?_
 have fw:=aF.aJ ab;have eV:=aF.aJ ay;generalize dQ:a.eval x=dr at fw;generalize eO:a.eval y=fp at eV;cases fw;cases eV;have cx:=Ib aO aK bo bF l' oc n n (Nat.le_refl _) an dY w;have r6:=xV sv;have ya:=Ia r6 (n*aB.size);rw [U,Nat.mul_one] at cx ya
 obtain ⟨aw,hle,aD,jM⟩:=pP aF.wf (.cells (madeCells aB.zero.cells n) e (0,0)) (.box e (List.replicate n z)) (fun w' hS av fa=>⟨_,hS,by
  rw [ya];exact bO.replicate (oR bE) n,fun o aN=>absurd (aF.wf.lt _ _ aN) ai⟩)
 refine ⟨.slice (some ⟨w.heap.size,0,none⟩) n n,_,_,p,_,?_,hle,aD,jM,⟨w.heap.size,rfl,rfl,aw,I⟩,.gx _⟩;unfold execOp;rw [ag];simp only [dQ,eO];exact fU cx
theorem aa.su (aO:bL P Γ) (I:Ok s L) {t e:TypeId} {x y:Operand} {it aB:bJ} {l' oc:IntKind} {z:ad} (n:Nat) (ao:guardOf ops env o=some true) (ar:o.dst=some d) (aX:Nat.blt d N=true) (ag:o.op = .makeSlice t x y) (aK:Γ.get? t=some it) (bo:it.bz = .aA e) (bF:Γ.get? e=some aB) (U:aB.size=1)
  (sv:aB.zero.oneCell'=true) (bE:gy aB.zero=some z) (ab:aJ env x=some (.int l' (n:Int))) (ay:aJ env y=some (.int oc (n:Int))) (an:n*aB.bytes≤140737488355328) (dY:n≤9223372036854775807)
  (h:∀ b,Ok s ((.own b,.box e (List.replicate n z))::L)→aa P N ops l Q ((d,dG b n n)::env) (aQ s ((.own b,.box e (List.replicate n z))::L))):aa P N ops (o::l) Q env (aQ s L):=by
 refine aa.op ao ar aX (aU.su aO I n ag aK bo bF U sv bE ab ay an dY (X:=fun _ _=>False)) ?_ (fun _ _ h=>h.elim);rintro r ah ⟨b,rfl,rfl,ae⟩;exact h b ae
theorem aU.DQ (aO:bL P Γ) (I:Ok s L) {t e:TypeId} {x y:Operand} {it aB:bJ} {l' oc:IntKind} {z:ad} (n c:Nat) (ag:o.op = .makeSlice t x y) (aK:Γ.get? t=some it) (bo:it.bz = .aA e) (bF:Γ.get? e=some aB) (U:aB.size=1)
  (sv:aB.zero.oneCell'=true) (bE:gy aB.zero=some z) (ab:aJ env x=some (.int l' (n:Int))) (ay:aJ env y=some (.int oc (c:Int))) (rv:n≤c) (an:c*aB.bytes≤140737488355328) (dY:c≤9223372036854775807) {X:ad→aj→Prop} :
  aU P N o env (aQ s L) (fun r ah=>∃ b,r = .aA 1 (List.replicate n z) (.own b)∧ah=aQ s ((.own b,.row e 1 n)::L)∧Ok s ((.own b,.row e 1 n)::L)) X:=by
 refine aU.jo h6 fun ro B a w p aF=>?_
 have fw:=aF.aJ ab;have eV:=aF.aJ ay;generalize dQ:a.eval x=dr at fw;generalize eO:a.eval y=fp at eV;cases fw;cases eV;have cx:=Ib aO aK bo bF l' oc n c rv an dY w;have r6:=xV sv;have ya:=Ia r6 (c*aB.size);rw [U,Nat.mul_one] at cx ya
 obtain ⟨bb,dD,c1,dn,lq,q5⟩:=PQ (e:=e) (sz:=1) (cap:=c) (cur:=madeCells aB.zero.cells c) aF.wf (bO.replicate (oR (w:=w) (p:=p) bE) n) (fun v av=>by
  obtain ⟨_,rfl⟩:=List.mem_replicate.1 av
  rw [r6];rfl) (by rw [size_madeCells,Nat.mul_one]) (by
  rw [ya,List.length_replicate,Nat.mul_one,List.take_replicate,rl (fun v av=>by obtain ⟨_,rfl⟩:=List.mem_replicate.1 av;exact sv),Nat.min_eq_left rv]) (by rw [List.length_replicate];exact rv) (by rw [List.length_replicate];omega)
 rw [List.length_replicate] at dn lq q5;refine ⟨.slice (some ⟨w.heap.size,0,none⟩) n c,_,_,bb,_,?_,c1,dn,lq,⟨w.heap.size,rfl,rfl,dD,I⟩,q5⟩;unfold execOp;rw [ag];simp only [dQ,eO];exact fU cx
theorem aa.DQ (aO:bL P Γ) (I:Ok s L) {t e:TypeId} {x y:Operand} {it aB:bJ} {l' oc:IntKind} {z:ad} (n c:Nat) (ao:guardOf ops env o=some true) (ar:o.dst=some d) (aX:Nat.blt d N=true) (ag:o.op = .makeSlice t x y) (aK:Γ.get? t=some it) (bo:it.bz = .aA e) (bF:Γ.get? e=some aB) (U:aB.size=1)
  (sv:aB.zero.oneCell'=true) (bE:gy aB.zero=some z) (ab:aJ env x=some (.int l' (n:Int))) (ay:aJ env y=some (.int oc (c:Int))) (rv:n≤c) (an:c*aB.bytes≤140737488355328) (dY:c≤9223372036854775807)
  (h:∀ b,Ok s ((.own b,.row e 1 n)::L)→aa P N ops l Q ((d,.aA 1 (List.replicate n z) (.own b))::env) (aQ s ((.own b,.row e 1 n)::L))):aa P N ops (o::l) Q env (aQ s L):=by
 refine aa.op ao ar aX (aU.DQ aO I n c ag aK bo bF U sv bE ab ay rv an dY (X:=fun _ _=>False)) ?_ (fun _ _ h=>h.elim);rintro r ah ⟨b,rfl,rfl,ae⟩;exact h b ae
end
end Go.bj
namespace Go.bj
def Ic (P:Program) {α:Type} (eJ a2:α→ad) (od:α→Prop) (l:Nat) (Go:List α→a6→Prop) (e6:a6→Prop) (fb:ad→a6→Prop):Prop:=
 ∀ x rem K,Go (x::rem) K→c2 P (kr l) [eJ x,a2 x] K (fun o aL=>(o = .ret (.bool true)∧od x∧Go rem aL)∨(o = .ret (.bool false)∧e6 aL)∨∃ v,o = .panic v∧fb v aL)
def DR (P:Program) (f:FuncId) (first cap:List ad) (lK:a6) {α:Type} (eJ a2:α→ad) (od:α→Prop) (xs:List α):Prop:=
 ∀ (l:Nat) (Go:List α→a6→Prop) (e6:a6→Prop) (fb:ad→a6→Prop),Ic P eJ a2 od l Go e6 fb→∀ K,Go xs K →
  bu P f (first++([kr l]++cap)) (lK++K) (fun o aL=>(o = .ret (.cl [])∧(Go [] aL∨e6 aL))∨∃ v,o = .panic v∧fb v aL)
section
variable {P:Program} {N:Nat} {Q:b2→Env→aj→Prop} {env:Env} {s:aj} {L R:a6}
theorem af.Ie {α:Type} {eJ a2:α→ad} {od:α→Prop} {xs:List α} {t u:Tmp} {g:Operand} {gd body:Code} {f:FuncId} {first cap:List ad} {lK:a6} (I:Ok s L) (ao:aJ env g=some (.func f first cap)) (aX:t<N) (jg:u<N)
  (mL:DR P f first cap lK eJ a2 od xs) (aw:au L lK R) (X4:List α→a6→Prop) (J:Code→a6→Prop) (rq:ad→a6→Prop) (bB:X4 xs R)
  (qN:∀ s x rem K,X4 (x::rem) K→Ok s K→af P N gd (b2.andThen (af P N body (Am (At s (fun K=>od x∧X4 rem K)) (fun j=>At s (J j)) (fun v=>At s (rq v)))) (fun _ _ _=>False)) ((u,a2 x)::(t,eJ x)::env) (aQ s K))
  (aC:∀ K,X4 [] K→Ok s K→Q .normal env (aQ s K))
  (aS:∀ j K,J j K→Ok s K→af P N j Q env (aQ s K))
  (ab:∀ v K,rq v K→Ok s K→Q (.panic v) env (aQ s K)):af P N (.rangeFunc g #[t,u] gd body) Q env (aQ s L):=by
 refine af.Hf ao (by intro bG cS;simp at cS;rcases cS with rfl|rfl;exact aX;exact jg) fun l r aI Dy=>?_
 have Dz:Ok s ((.own l,.loop r env)::L):=⟨aI,I⟩;have nx:Ic P eJ a2 od l (fun rem K=>∃ aL,K=(.own l,.loop r env)::aL∧X4 rem aL) (fun K=>∃ j aL,K=(.own l,.loop (o4 r j) env)::aL∧J j aL) (fun v K=>∃ aL,K=(.own l,.loop (busy r) env)::aL∧rq v aL):=by
  rintro x rem _ ⟨K,rfl,aH⟩ ah xZ;refine (Dy [eJ x,a2 x] _ (At ah (fun K=>od x∧X4 rem K)) (fun j=>At ah (J j)) (fun v=>At ah (rq v)) (aj.fu _ _ _) C ?_).less ?_
  ·have:=aj.xo (aQ ah K) l (.loop r env) xZ.1
   show af P N gd _ _ (((aQ ah K).set l (.loop r env)).del l);rw [this];exact qN ah x rem K aH xZ.2
  ·have key:∀ {L K R:a6} {o:db},aQ ah L l=none→Ok ah L→au L K R→aj.Sub (aQ ah ((.own l,o)::K)) ((aQ ah L).set l o)∧Ok ah ((.own l,o)::K):=by
    intro L K R o U ae al;exact (au.cons aP.here al).sub (L:=(.own l,o)::L) ⟨U,ae⟩
   rintro o ef (⟨rfl,dg,U,rfl,L,aL,R,rfl,ae,bl,al⟩|⟨rfl,j,dg,U,rfl,L,aL,R,rfl,ae,bl,al⟩|⟨v,dg,rfl,U,rfl,L,aL,R,rfl,ae,bl,al⟩)
   ·obtain ⟨cz,dj⟩:=key U ae bl (o := .loop r env)
    exact ⟨_,cz,(.own l,.loop r env)::aL,rfl,dj,.inl ⟨rfl,al.1,aL,rfl,al.2⟩⟩
   ·obtain ⟨cz,dj⟩:=key U ae bl (o := .loop (o4 r j) env)
    exact ⟨_,cz,(.own l,.loop (o4 r j) env)::aL,rfl,dj,.inr (.inl ⟨rfl,j,aL,rfl,al⟩)⟩
   ·obtain ⟨cz,dj⟩:=key U ae bl (o := .loop (busy r) env)
    exact ⟨_,cz,(.own l,.loop (busy r) env)::aL,rfl,dj,.inr (.inr ⟨v,rfl,aL,rfl,al⟩)⟩
 have h7:=(mL l _ _ _ nx _ ⟨R,rfl,bB⟩).at Dz ((aw.there (e:=(.own l,.loop r env))).app (au.fh _));refine h7.mono ?_;rintro o ef ⟨M,rfl,hT,aL,rfl,h⟩;rw [List.append_nil] at hT ⊢;rcases h with ⟨rfl,⟨k6,rfl,h⟩|⟨j,k6,rfl,h⟩⟩|⟨v,rfl,k6,rfl,h⟩
 ·exact .inl ⟨aQ s k6,hT.1,rfl,aC k6 h hT.2⟩
 ·exact .inr ⟨j,aQ s k6,hT.1,rfl,aS j k6 h hT.2⟩
 ·exact ⟨aQ s k6,_,hT.1,rfl,ab v k6 h hT.2⟩
end
end Go.bj
namespace Go.bj
section
variable {J:aj→Prop} {P:Program} {Γ:cg} {N:Nat} {l:List Oper} {i:Nat} {rest:List Oper} {Q:b2→Env→aj→Prop} {env:Env} {s:aj} {o:Oper} {d:Nat}
theorem aM.shl {t yt:TypeId} {x y:Operand} {k k':IntKind} {a b:Int} (r:Int) (ao:guardOf l.toArray (bc env (looks l.toArray o)) o=some true) (ar:o.dst=some d) (aX:Nat.blt d N=true) (ag:o.op = .binOp .shl t x y yt) (ab:aJ (bc env (looks l.toArray o)) x=some (.int k a)) (ay:aJ (bc env (looks l.toArray o)) y=some (.int k' b)) (an:0≤b) (az:k.wrap (a*2^(min b.toNat k.bits))=r)
  (h:aM J P Γ N l (i+1) rest Q ((d,.int k r)::env) s):aM J P Γ N l i (o::rest) Q env s:=
 aM.calm ao ar aX (fun _ _=>aU.shl ag ab ay an az) h
theorem aM.shr {t yt:TypeId} {x y:Operand} {k k':IntKind} {a b:Int} (r:Int) (ao:guardOf l.toArray (bc env (looks l.toArray o)) o=some true) (ar:o.dst=some d) (aX:Nat.blt d N=true) (ag:o.op = .binOp .shr t x y yt) (ab:aJ (bc env (looks l.toArray o)) x=some (.int k a)) (ay:aJ (bc env (looks l.toArray o)) y=some (.int k' b)) (an:0≤b) (az:a.fdiv (2^(min b.toNat k.bits))=r)
  (h:aM J P Γ N l (i+1) rest Q ((d,.int k r)::env) s):aM J P Γ N l i (o::rest) Q env s:=
 aM.calm ao ar aX (fun _ _=>aU.shr ag ab ay an az) h
theorem aM.bits {op:BinOp} {t yt:TypeId} {x y:Operand} {k:IntKind} {a b:Int} (r:Int) (ao:guardOf l.toArray (bc env (looks l.toArray o)) o=some true) (ar:o.dst=some d) (aX:Nat.blt d N=true) (ag:o.op = .binOp op t x y yt) (ab:aJ (bc env (looks l.toArray o)) x=some (.int k a)) (ay:aJ (bc env (looks l.toArray o)) y=some (.int k b)) (az:bitsOf op k a b=some r)
  (h:aM J P Γ N l (i+1) rest Q ((d,.int k r)::env) s):aM J P Γ N l i (o::rest) Q env s:=
 aM.calm ao ar aX (fun _ _=>aU.bits ag ab ay az) h
end
section
variable {J:aj→Prop} {P:Program} {Γ:cg} {N:Nat} {l:List Oper} {Q:b2→Env→aj→Prop} {env:Env} {s:aj} {o:Oper} {d m:Nat} {L R:a6}
theorem bm.lF (i:Nat) (aO:bL P Γ) (I:Ok s L) {t ds ew:TypeId} {x y z:Operand} {it fN:bJ} {b:Nat} {es c5:List (ad×ad)} {k v:ad} (az:ed l.toArray m (idxs 0 l)=[i]) (ag:l.toArray[i]? = some o) (ar:o.dst=none)
  (ao:guardOf l.toArray (bc env (looks l.toArray o)) o=some true) (bW:o.op = .mapUpdate t x y z∨o.op = .insert t x y z) (aK:Γ.get? t=some it) (bo:it.bz = .map ds ew) (ie:Γ.get? ds=some fN) (ab:aJ (bc env (looks l.toArray o)) x=some (.map b)) (ay:aJ (bc env (looks l.toArray o)) y=some k) (bE:aJ (bc env (looks l.toArray o)) z=some v)
  (aw:aP L (.own b) (.map es) R) (ba:iZ fN.bz k=true) (aN:kn es k v=some c5)
  (aS:Ok s ((.own b,.map c5)::R)→J (aQ s ((.own b,.map c5)::R))∨jL l.toArray i=true)
  (h:Ok s ((.own b,.map c5)::R)→bm J P Γ N l.toArray Q (bR (m|||2^i)) env (aQ s ((.own b,.map c5)::R))):bm J P Γ N l.toArray Q (bR m) env (aQ s L):=
 bm.vE az ag ar ao (aU.lF aO I bW aK bo ie ab ay bE aw ba aN (X:=fun _ _=>False)) (fun x ah ⟨U,ae⟩=>by subst U;exact aS ae) (fun x ah ⟨U,ae⟩=>by subst U;exact h ae) (fun _ _ h=>h.elim)
end
section
variable {P:Program} {b:Frame} {a:Act} {k:List Item} {cs:List Frame} {w:World}
theorem yb {c:Code}:step P (lone (b.atR a (.code (.scope c)::k)) cs w) = .next (lone (b.atR a (.code c :: .inScope c::k)) cs w):=
 step_lone_go (by simp [stepG,stepG.exec,Frame.atR])
theorem PR {c:Code}:step P (lone (b.atR a (.inScope c::k)) cs w) = .next (lone (b.atR a k) cs w):=
 step_lone_go (by simp [stepG,stepG.exec,Frame.atR])
theorem PS {Q:fY→Act→World→Prop} {c:Code} (h:iG P b c Q a w):iG P b (.scope c) Q a w:=by
 intro k cs;obtain ⟨e,hP,w₁,bs,fo⟩:=h (.inScope c::k) cs;cases e with
 | normal=>exact ⟨.normal,hP,w₁,bs,.head yb (Steps.trans fo (.one PR))⟩
 | exit id=>
  refine ⟨.exit id,hP,w₁,bs,fun k' aD => .head yb (fo.1 k' (by simpa [exitTo] using aD)),fun aD=>?_⟩;obtain ⟨k₁,U,ae⟩:=fo.2 (by simpa [exitTo] using aD);exact ⟨k₁,U,.head yb ae⟩
 | ret=>obtain ⟨k₁,aw⟩:=fo;exact ⟨.ret,hP,w₁,bs,k₁,.head yb aw⟩
 | panic da=>obtain ⟨k₁,aw⟩:=fo;exact ⟨.panic da,hP,w₁,bs,k₁,.head yb aw⟩
theorem PT {Q:fY→Act→World→Prop} {l:Nat} (h:Q .normal a w):iG P b (.label l) Q a w:=
 fun _ _=>⟨.normal,a,w,h,.one stepR_label⟩
end
section
variable {P:Program} {N:Nat} {Q:b2→Env→aj→Prop} {env:Env} {s:aj}
theorem af.scope {c:Code} (h:af P N c Q env s):af P N (.scope c) Q env s:=fun b B a w p et aF=>PS (h b B a w p et aF)
theorem af.label {l:Nat} (h:Q .normal env s):af P N (.label l) Q env s:=fun _ _ _ _ _ _ aF=>PT (.here .normal h aF)
end
end Go.bj
namespace Go.Proofs.YtnafpeohfbglmaaGreat
open Go.bj Go.bY
def eR (g:List bC):ad := .aA 4 (g.map de) .bd
def k9:Option Int→List Int→Bool
 | _,[]=>true
 | none,x::r=>decide (x≥0)&&k9 (some x) r
 | some p,x::r=>decide (x≥0)&&(decide (p<x)&&k9 (some x) r)
theorem Ig:∀ (r:List Int) (x:Int),pa (x::r)=(decide (x≥0)&&k9 (some x) r)
  | [],x=>by rw [pa,k9,Bool.and_true]
  | y::r,x=>by
    rw [pa,k9,Ig r y];cases decide (x<y)<;>cases decide (y≥0)<;>simp
theorem Ih (l:List Int):pa l=k9 none l:=by
 cases l with
 | nil=>rfl
 | cons x r=>rw [Ig,k9]
theorem iS {len i:Nat} {x:bC} (h:x.atom ≠ -1):hx len i x=true↔0≤x.atom∧x.atom<7∧x.no>i∧x.no<len∧x.yes>i∧x.yes<len∧x.ms.length=0:=by
 unfold hx;rw [if_neg h];simp
theorem lM {len i:Nat} {x:bC} (h:x.atom = -1):hx len i x=true↔x.no=0∧x.yes=0∧x.ms.length≤16∧pa x.ms=true:=by
 unfold hx;rw [if_pos h];simp
theorem DS (g:List bC) (ao:g.length<bt):a7 Tryz.prog 68 [eR g] (.bool (fP g)):=by
 have an:=bQ;refine a7.bp ak call68 Tryz.func68 C C fun s I=>?_
 unfold eR;have df:fP g=fP g:=rfl
 conv at df=>rhs;unfold fP
 refine dF ?_;by_cases g1:g.length=0
 ·refine aa.eH 10 C (by simp [g1]) ?_
  rw [show decide (1≤g.length)=false by simp [g1],Bool.false_and] at df;rw [df];refine cC ?_;exact bA I
 refine aa.dR 10 C (by simp;intro e;exact g1 (by rw [e];rfl)) ?_;rw [show decide (1≤g.length)=true by simp;omega,Bool.true_and] at df;refine hv ?_;refine af.cond C (fun g2=>?_) (fun g2=>?_)
 ·rw [show decide (g.length≤300)=false by simp at g2 ⊢;omega,Bool.false_and] at df
  rw [df];refine j' ?_;exact bA I
 have g2:g.length≤300:=by simp at g2;omega
 rw [decide_eq_true g2,Bool.true_and] at df;rw [df];refine lH ?_;refine af.cT [0,15,16] C I (σ:=Nat) (fun j=>[(17,.int .i64 (j:Int))]) (fun _=>[]) (fun j=>j≤g.length∧nz g.length 0 g=nz g.length j (g.drop j)) (fun j=>g.length-j) 0 ⟨Nat.zero_le _,rfl⟩ (c3 C) bM ?_;rintro j ⟨aS,aH⟩ I
 try simp only at aS aH I ⊢
 refine cL ?_;refine af.cond C (fun aG=>?_) (fun bk=>?_);rotate_left
 ·have bk:j=g.length:=by simp at bk;omega
  rw [fC ai,nz] at aH;rw [aH];refine fJ ?_;exact bA I
 have aG:j<g.length:=by simpa using aG
 obtain ⟨x,ab,ch⟩:=cD (f:=de) aG;rw [drop_cons ab,nz] at aH;unfold de fj bI at ch
 repeat (first|(refine AA I ?_;clear I;intro I)|refine aa.dE ak I rfl rfl rfl rfl rfl rfl rfl (fun cv I=>?_))
 refine af.cond C (fun aV=>?_) (fun aV=>?_)
 ·have aV:x.atom ≠ -1:=by simpa using aV
  refine cn I ?_;intro I;by_cases U:x.atom<0
  ·refine aa.eH 28 C (decide_eq_true U) ?_
   refine cC ?_;rw [aH,show hx g.length j x=false from Bool.eq_false_iff.2 (fun h=>by have:=(iS aV).1 h;omega),Bool.false_and];skip;exact bA I
  refine aa.dR 28 C (decide_eq_false U) ?_;refine cn I ?_;intro I;by_cases ae:x.atom≥7
  ·refine aa.eH 33 C (decide_eq_true ae) ?_
   refine cC ?_;rw [aH,show hx g.length j x=false from Bool.eq_false_iff.2 (fun h=>by have:=(iS aV).1 h;omega),Bool.false_and];skip;exact bA I
  refine aa.dR 33 C (decide_eq_false ae) ?_;refine cn I ?_;intro I;by_cases al:(if x.yes<x.no then x.yes else x.no)≤(j:Int)
  ·refine aa.eH 42 C (decide_eq_true al) ?_
   refine cC ?_;rw [aH,show hx g.length j x=false from Bool.eq_false_iff.2 (fun h=>by have:=(iS aV).1 h;omega),Bool.false_and];skip;exact bA I
  refine aa.dR 42 C (decide_eq_false al) ?_;refine cn I ?_;intro I;by_cases bl:(if x.yes>x.no then x.yes else x.no)≥(g.length:Int)
  ·refine aa.eH 52 C dq ?_
   refine cC ?_;rw [aH,show hx g.length j x=false from Bool.eq_false_iff.2 (fun h=>by have:=(iS aV).1 h;omega),Bool.false_and];skip;exact bA I
  refine aa.dR 52 C dq ?_;refine cn I ?_;intro I;refine af.cond C (fun bD=>?_) (fun bD=>?_)
  ·have bD:x.ms.length≠0:=by simp at bD;omega
   rw [aH,show hx g.length j x=false from Bool.eq_false_iff.2 (fun h=>by have:=(iS aV).1 h;omega),Bool.false_and];refine mh ?_;exact bA I
  have bD:x.ms.length=0:=by simp at bD;rw [bD];rfl
  rw [(iS aV).2 ai,Bool.true_and] at aH;refine bP ?_;exact bX.mk (j+1) I ⟨aG,aH⟩ c7 bM ua
 have aV:x.atom = -1:=by simpa using aV
 refine cn I ?_;intro I;by_cases U:x.no=0;rotate_left
 ·refine aa.eH 61 C rk ?_
  refine cC ?_;rw [aH,show hx g.length j x=false from Bool.eq_false_iff.2 (fun h=>by have:=(lM aV).1 h;omega),Bool.false_and];skip;exact bA I
 refine aa.dR 61 C rk ?_;refine cn I ?_;intro I;by_cases ae:x.yes=0;rotate_left
 ·refine aa.eH 66 C (by simpa using ae) ?_
  refine cC ?_;rw [aH,show hx g.length j x=false from Bool.eq_false_iff.2 (fun h=>by have:=(lM aV).1 h;omega),Bool.false_and];skip;exact bA I
 refine aa.dR 66 C (by simpa using ae) ?_;refine cn I ?_;intro I;refine af.cond C (fun al=>?_) (fun al=>?_)
 ·rw [aH,show hx g.length j x=false from Bool.eq_false_iff.2 (fun h=>by have:=(lM aV).1 h;simp at al;omega),Bool.false_and]
  refine mh ?_;exact bA I
 have al:x.ms.length≤16:=by simp at al;omega
 refine cn I ?_;intro I;refine af.cT [0,15,16,17,4,73,74] C I (σ:=Nat) (fun k=>[(75,.int .i64 (k:Int))]) (fun _=>[(.own cv,.box 69 (fj x))]) (fun k=>k≤x.ms.length∧pa x.ms=k9 (if k=0 then none else x.ms[k-1]?) (x.ms.drop k)) (fun k=>x.ms.length-k) 0 ⟨Nat.zero_le _,Ih _⟩ (c3 C) (by simp only [fj];repeat (first|exact au.nil|(apply au.cons;· repeat (first|exact aP.here|apply aP.there)))) ?_;rintro k ⟨aD,br⟩ I
 try simp only [fj,bI] at aD br I ⊢
 refine cL ?_;refine af.cond C (fun c6=>?_) (fun e1=>?_);rotate_left
 ·have e1:k=x.ms.length:=by simp at e1;omega
  rw [fC ai,k9] at br;rw [(lM aV).2 ⟨U,ae,al,br⟩,Bool.true_and] at aH;refine bP ?_;exact bX.mk (j+1) I ⟨aG,aH⟩ c7 bM ua
 have c6:k<x.ms.length:=by simpa using c6
 obtain ⟨y,ay,ey⟩:=cD (f:=bg) c6;rw [drop_cons ay] at br;unfold bg at ey;refine fA ?_;by_cases bl:y<0
 ·refine aa.eH 82 C (decide_eq_true bl) ?_
  have br:pa x.ms=false:=by
   rw [br];cases (if k=0 then none else x.ms[k-1]?)<;>rw [k9,show decide (y≥0)=false by simp;omega,Bool.false_and]
  rw [aH,show hx g.length j x=false from Bool.eq_false_iff.2 (fun h=>by have:=((lM aV).1 h).2.2.2;rw [br] at this;cases this),Bool.false_and];refine cC ?_;exact bA I
 refine aa.dR 82 C (decide_eq_false bl) ?_;have l1:decide (y≥0)=true:=by simp;omega
 cases k with
 | zero=>
  rw [if_pos C,k9,l1,Bool.true_and] at br;refine bP ?_;exact bX.mk 1 I ⟨c6,by rw [if_neg ai];simpa [ay] using br⟩ AF bM (by show x.ms.length-1<x.ms.length-0;omega)
 | succ k=>
 rw [if_neg ai,Nat.add_sub_cancel] at br;obtain ⟨z,bE,kG⟩:=cD (f:=bg) (show k<x.ms.length by omega);rw [bE,k9,l1,Bool.true_and] at br;unfold bg at kG;refine d' ?_;refine aa.eH 85 C bn ?_;refine cn I ?_;intro I;refine aa.idx ak k C C C C C C C C C C (by rw [e0 ai ai];push_cast;omega) kG C ?_;refine hv ?_;refine af.cond C (fun bD=>?_) (fun bD=>?_)
 ·rw [show decide (z<y)=false by simp at bD ⊢;omega,Bool.false_and] at br
  rw [aH,show hx g.length j x=false from Bool.eq_false_iff.2 (fun h=>by have:=((lM aV).1 h).2.2.2;rw [br] at this;cases this),Bool.false_and];refine mh ?_;exact bA I
 rw [show decide (z<y)=true by simp at bD ⊢;omega,Bool.true_and] at br;refine gi ?_;exact bX.mk (k+2) I ⟨c6,by rw [if_neg ai];simpa [ay] using br⟩ xQ bM (by show x.ms.length-(k+2)<x.ms.length-(k+1);omega)
end Go.Proofs.YtnafpeohfbglmaaGreat
namespace Go.bj
section
variable {P:Program} {Γ:cg} {N:Nat} {ops:Array Oper} {Q:b2→Env→aj→Prop} {env:Env} {s:aj} {l:List Oper} {o:Oper} {d:Nat} {L R:a6}
theorem Ii (aO:bL P Γ) {w:World} {p:bN} {S:aj} (b6:c0 w p S) {t bG e ty:TypeId} {it cp aB:bJ} {bV:Nat} {olds:List Value} {xs ys:List ad} {dh:bU} {base:Option Addr} {n cap:Nat} {o7:Value}
  (aK:Γ.get? t=some it) (bo:it.bz = .aA e) (cS:Γ.get? bG=some cp) (dp:∀ k,cp.bz ≠ .int k) (bF:Γ.get? e=some aB) (U:aB.size=1) (dJ:Nat.beq aB.zero.cells.size aB.size=true)
  (az:bO w p olds xs) (aC:n=xs.length) (qY:(Builtin.firstCells 1 n (.slice base n cap)).run P w.drew = .ok olds.toArray w.drew) (ay:Rel w p o7 (.aA bV ys dh)) (cY:bV=1) (dB:ys.all eN=true)
  (aG:cap<n+ys.length) (an:(n+ys.length)*aB.bytes≤140737488355328) (dY:n+ys.length≤9223372036854775807) :
  ∃ aT b' cs' w',(Builtin.append_ #[t,bG] ty #[.slice base n cap,o7]).run P w = .ok (.slice (some ⟨aT,0,none⟩) (n+ys.length) b') w'∧S aT=none∧cV w p w' p∧Kept S (S.set aT (.box e cs')) w p w' p∧c0 w' p (S.set aT (.box e cs')) ∧
   cs'.length=b'∧n+ys.length≤b'∧cs'.take (n+ys.length)=xs++ys:=by
 obtain ⟨info,d,g1,g2,g3,-⟩:=aO.parts aK;obtain ⟨ln,cM,dD,c1,dn,-⟩:=aO.parts cS;obtain ⟨iH,jq,cz,dj,ft,ej,kW,kX⟩:=aO.parts bF;have ar:d = .slice e:=by rw [bo] at g3;cases d<;>simp [dP] at g3;rw [g3]
 subst ar;have cb:∀ k,cM ≠ .int k:=fun k e'=>by subst e';exact dp k dn.symm
 obtain ⟨us,hs,nX,iI,i',q0,q1,q2⟩:=oV ay (.inr cY);have lu:=hs.length;subst cY;have rm:flat us=us:=rl (oT hs dB);have eU:=growslice_fits (need:=n+ys.length) (old:=cap) (bytes:=aB.bytes) aG an;have cx:=xt (ty:=ty) w g2 c1 cb cz kX (base:=base) (sLen:=n) (sCap:=cap) (m:=ys.length) (olds:=olds) (news:=us) (iI P)
  (by rw [ej,U];exact qY) (by rw [ej,U];(conv=>rhs;rw [← rm]);exact i' P w.drew (fun _ _ _=>rfl)) aG ai (by rw [kW];exact eU)
 have l7:n+ys.length≤grownCap w (n+ys.length) cap e:=by simp [grownCap,Question.cut]
 have gC:olds.length=n:=by rw [az.length,aC]
 have nd:=Nat.eq_of_beq_eq_true dJ;generalize qZ:(Builtin.zeroCells aB.zero.cells (grownCap w (n+ys.length) cap e-(n+ys.length))).toList=a1 at cx;have lv:a1.length=grownCap w (n+ys.length) cap e-(n+ys.length):=by
  rw [← qZ,Array.length_toList];simp [Builtin.zeroCells,nd,U]
 generalize grownCap w (n+ys.length) cap e=G at cx l7 lv;have ud:=vo b6
 obtain ⟨aw,hle,aD,jM⟩:=pP ud (.cells (olds++us++a1).toArray e (0,0)) (.box e (xs++ys++a1.map fun _ => .any)) (fun w' hS av fa=>⟨_,hS,by
  refine bO.append (bO.append (fa _ _ (show bO w.drew p olds xs from az.mono jH)) (fa _ _ (hs.mono jH))) (bO.xU a1),fun o aN=>absurd (b6.lt _ _ aN) (by show ¬ w.heap.size<w.heap.size;omega)⟩)
 rw [show w.drew.heap.size=w.heap.size from rfl] at aw aD jM;refine ⟨w.heap.size,G,xs++ys++a1.map (fun _=>ad.any),_,cx,aw,jH.trans hle,(ti (w:=w) (p:=p)).trans (jH (w:=w) (p:=p)).size aD,jM,?_,l7,?_⟩
 ·simp only [List.length_append,List.length_map,lv];omega
 ·rw [List.take_append_of_le_length dq,List.take_of_length_le dq]
theorem aU.DT (aO:bL P Γ) (I:Ok s L) {t bG e:TypeId} {x y:Operand} {it cp aB:bJ} {dL bV:Nat} {ys:List ad} {dh:bU}
  (ag:o.op = .call { callee := .builtin .append,args := #[x,y],argTypes := #[t,bG] }) (aK:Γ.get? t=some it) (bo:it.bz = .aA e) (cS:Γ.get? bG=some cp) (dp:∀ k,cp.bz ≠ .int k)
  (bF:Γ.get? e=some aB) (U:aB.size=1) (dJ:Nat.beq aB.zero.cells.size aB.size=true) (ab:aJ env x=some (.aA dL [] .nil)) (ay:aJ env y=some (.aA bV ys dh)) (cY:bV=1) (dB:ys.all eN=true) (cB:1≤ys.length) (an:ys.length*aB.bytes≤140737488355328) (dY:ys.length≤9223372036854775807)
  {X:ad→aj→Prop}:aU P N o env (aQ s L) (fun r ah=>Grown s L e ys.length ys r ah) X:=by
 refine aU.jo h6 fun ro B a w p aF=>?_
 have fw:=aF.aJ ab;have eV:=aF.aJ ay;have ei:=fun val w'=>sk (P:=P) (a:=a) (val:=val) (w:=w) (w':=w') ag
 generalize dQ:a.eval x=dr at fw ei;generalize eO:a.eval y=fp at eV ei;have rn:dr = .slice none 0 0:=by
  cases fw with
  | gU=>rfl
  | hE a _ _ h=>rcases h with h|h<;>cases h
  | aA g off n cap _ vs _ _ aC=>exact absurd C aC
 subst rn
 obtain ⟨aT,b',cs',w',eE,e9,fH,h2,kY,kZ,lI,lJ⟩:=Ii (ty:=o.type) aO aF.wf (base:=none) (n:=0) (cap:=0) (olds:=[]) (xs:=[]) aK bo cS dp bF U dJ .nil rfl (by
  have:=run_firstCells_none (P:=P) w.drew 1 0 0 0
  simpa using this) eV cY dB ai (by simpa using an) ai
 rw [Nat.zero_add] at eE lI lJ;exact ⟨_,w',_,p,_,ei _ _ eE,fH,h2,kY,⟨aT,b',cs',rfl,rfl,⟨e9,I⟩,kZ,lI,by simpa using lJ⟩,.gx _⟩
theorem aU.DU (aO:bL P Γ) (I:Ok s L) {t bG e:TypeId} {x y:Operand} {it cp aB:bJ} {b n cap bV:Nat} {cs ys:List ad} {dh:bU}
    (ag:o.op = .call { callee := .builtin .append,args := #[x,y],argTypes := #[t,bG] }) (aK:Γ.get? t=some it) (bo:it.bz = .aA e) (cS:Γ.get? bG=some cp) (dp:∀ k,cp.bz ≠ .int k)
    (bF:Γ.get? e=some aB) (U:aB.size=1) (dJ:Nat.beq aB.zero.cells.size aB.size=true) (ab:aJ env x=some (dG b n cap)) (aw:aP L (.own b) (.box e cs) R) (cE:cs.length=cap) (aC:n≤cap) (gz:(cs.take n).all eN=true)
    (ay:aJ env y=some (.aA bV ys dh)) (cY:bV=1) (dB:ys.all eN=true) (an:(n+ys.length)*aB.bytes≤140737488355328) (dY:n+ys.length≤9223372036854775807)
    {X:ad→aj→Prop}:aU P N o env (aQ s L) (fun r ah=>Grown s R e (n+ys.length) (cs.take n++ys) r ah) X:=by
  obtain ⟨b8,bZ,eF⟩:=aw.perm I;refine aU.jo h6 fun ro B a w p aF=>?_
  have fw:=aF.aJ ab;have eV:=aF.aJ ay;have ei:=fun val w'=>sk (P:=P) (a:=a) (val:=val) (w:=w) (w':=w') ag
  generalize dQ:a.eval x=dr at fw ei;generalize eO:a.eval y=fp at eV ei;cases fw;obtain ⟨vs,cr,cJ,dW⟩:=aF.wf.obj _ _ (aw.get I);have fa:vs.toList.length=cap:=by rw [cJ.length,cE]
  have hc:=cJ.take n;have ue:=oT hc gz;have q6:∀ w':World,(∀ j,w'.cell? ⟨b,j,none⟩=w.cell? ⟨b,j,none⟩)→(Builtin.firstCells 1 n (.slice (some ⟨b,0,none⟩) n cap)).run P w' = .ok (vs.toList.take n).toArray w':=by
    intro w' hS;refine run_firstCells_some (P:=P) w' 1 n ⟨b,0,none⟩ n cap (vs.toList.take n) (by rw [List.length_take,fa];omega) (fun j u hu=>?_);rw [j4,Nat.zero_add,hS,iz cr];rw [List.getElem?_take] at hu;split at hu
    · simpa using hu
    · cases hu
  by_cases aG:cap<n+ys.length
  · obtain ⟨aT,b',cs',w',eE,e9,fH,h2,kY,kZ,lI,lJ⟩:=Ii (ty:=o.type) aO aF.wf (base:=some ⟨b,0,none⟩) (n:=n) (cap:=cap) (olds:=vs.toList.take n) (xs:=cs.take n) aK bo cS dp bF U dJ hc vh
      (q6 w.drew fun _=>rfl) eV cY dB aG an dY
    have gH:aj.Sub ((aQ s R).set aT (.box e cs')) ((aQ s L).set aT (.box e cs')):=by
      refine Az (k := .own aT) ?_;rw [b8];exact vI (k := .own b) (aj.nf _) bZ
    have ao:aQ s R aT=none:=by
      have h:=e9;rw [b8] at h;exact (aj.r7 h).2
    exact ⟨_,w',_,p,_,ei _ _ eE,fH,h2.sub gH,kY.sub gH,⟨aT,b',cs',rfl,rfl,⟨ao,eF⟩,kZ,lI,lJ⟩,.gx _⟩
  · obtain ⟨info,d,g1,g2,g3,-⟩:=aO.parts aK
    obtain ⟨ln,cM,dD,c1,dn,-⟩:=aO.parts cS;obtain ⟨iH,jq,cz,dj,ft,ej,kW,kX⟩:=aO.parts bF;have ar:d = .slice e:=by rw [bo] at g3;cases d<;>simp [dP] at g3;rw [g3]
    subst ar;have cb:∀ k,cM ≠ .int k:=fun k e'=>by subst e';exact dp k dn.symm
    subst cY;obtain ⟨us,hs,nX,iI,i',q0,q1,q2⟩:=oV (sz':=1) eV (.inr rfl);have lu:=hs.length;have k5:∀ x∈us,x.oneCell'=true:=oT hs dB;have rm:flat us=us:=rl k5;have eh:vs.size=cap:=by rw [← Array.length_toList];exact fa
    have cx:=z6 (ty:=o.type) (P:=P) w g2 c1 cb cz b n cap vs cr (xv:=fp) (m:=ys.length) (news:=us) (iI P) (by rw [ej,U];(conv=>rhs;rw [← rm]);exact i' P w (fun _ _ _=>rfl)) k5 ai (by rw [ej,U,eh];omega);rw [ej,U,Nat.mul_one] at cx;have gq:bO w p (vs.toList.take n++us++vs.toList.drop (n+us.length)) (cs.take n++ys++cs.drop (n+us.length)):=bO.append (bO.append hc hs) (cJ.drop _);have cX:(aQ s L) b=some (.box e cs):=aw.get I
    obtain ⟨dU,jd,je⟩:=tt aF.wf cX (vs':=(vs.toList.take n++us++vs.toList.drop (n+us.length)).toArray) (cs':=cs.take n++ys++cs.drop (n+us.length)) (fun xW bB=>by
      rw [cr] at bB;cases bB
      simp only [List.size_toArray,List.length_append,List.length_take,List.length_drop,fa]
      rw [eh];omega) (by simpa using gq) _ C
    obtain ⟨f1,f2⟩:=aw.put (.box e (cs.take n++ys++cs.drop (n+us.length))) I;refine ⟨_,_,_,p,_,ei _ _ cx,dU,jd,je,⟨b,cap,cs.take n++ys++cs.drop (n+us.length),rfl,f1,f2,?_,by omega,?_⟩,.gx _⟩
    · simp only [List.length_append,List.length_take,List.length_drop,cE];omega
    · have:(cs.take n++ys).length=n+ys.length:=by simp [cE];omega
      rw [List.take_append_of_le_length ai,List.take_of_length_le ai]
theorem aU.DV (aO:bL P Γ) {t bG e:TypeId} {x y:Operand} {it cp aB:bJ} {dL bV:Nat} {dh:bU}
  (ag:o.op = .call { callee := .builtin .append,args := #[x,y],argTypes := #[t,bG] }) (aK:Γ.get? t=some it) (bo:it.bz = .aA e) (cS:Γ.get? bG=some cp) (dp:∀ k,cp.bz ≠ .int k)
  (bF:Γ.get? e=some aB) (ab:aJ env x=some (.aA dL [] .nil)) (ay:aJ env y=some (.aA bV [] dh)) {X:ad→aj→Prop}:aU P N o env s (fun r ah=>r = .aA 0 [] .nil∧ah=s) X:=by
 refine aU.jo h6 fun ro B a w p aF=>?_
 have fw:=aF.aJ ab;have eV:=aF.aJ ay;have ei:=fun val w'=>sk (P:=P) (a:=a) (val:=val) (w:=w) (w':=w') ag
 generalize dQ:a.eval x=dr at fw ei;generalize eO:a.eval y=fp at eV ei;have rn:dr = .slice none 0 0:=by
  cases fw with
  | gU=>rfl
  | hE a _ _ h=>rcases h with h|h<;>cases h
  | aA g off n cap _ vs _ _ aC=>exact absurd C aC
 subst rn;obtain ⟨info,d,g1,g2,g3,-⟩:=aO.parts aK;obtain ⟨ln,cM,dD,c1,dn,-⟩:=aO.parts cS;obtain ⟨iH,jq,cz,dj,ft,ej,kW,kX⟩:=aO.parts bF;have ar:d = .slice e:=by rw [bo] at g3;cases d<;>simp [dP] at g3;rw [g3]
 subst ar;have cb:∀ k,cM ≠ .int k:=fun k e'=>by subst e';exact dp k dn.symm
 obtain ⟨us,hs,nX,iI,i',q0,q1,q2⟩:=oV (sz':=aB.size) eV (.inl rfl);cases hs;have aI:=iI P;have ba:=i' P w (fun _ _ _=>rfl);rw [List.length_nil] at aI ba;have bE:(match cM with | .int _=>true|_=>false)=false:=by cases cM<;>first|rfl|exact absurd C (cb _)
 have cx:(Builtin.append_ #[t,bG] o.type #[.slice none 0 0,fp]).run P w = .ok (.slice none 0 0) w:=by
  simp [Builtin.append_,run_underlying g2,run_underlying c1,sizeOf,typeInfo,cz,ej,bE,aI,ba]
 exact ⟨_,w,s,p,_,ei _ _ cx,.refl w p,.refl s w p,aF.wf,⟨rfl,rfl⟩,.gU _ _ (fun _=>by simp)⟩
theorem aa.DV (aO:bL P Γ) {t bG e:TypeId} {x y:Operand} {it cp aB:bJ} {dL bV:Nat} {dh:bU} (ao:guardOf ops env o=some true) (ar:o.dst=some d) (aX:Nat.blt d N=true)
  (ag:o.op = .call { callee := .builtin .append,args := #[x,y],argTypes := #[t,bG] }) (aK:Γ.get? t=some it) (bo:it.bz = .aA e) (cS:Γ.get? bG=some cp) (dp:∀ k,cp.bz ≠ .int k)
  (bF:Γ.get? e=some aB) (ab:aJ env x=some (.aA dL [] .nil)) (ay:aJ env y=some (.aA bV [] dh)) (h:aa P N ops l Q ((d,.aA 0 [] .nil)::env) s):aa P N ops (o::l) Q env s:=
 aa.op ao ar aX (aU.DV aO ag aK bo cS dp bF ab ay (X:=fun _ _=>False)) (fun x ah ⟨U,ae⟩=>by subst U;subst ae;exact h) (fun _ _ h=>h.elim)
theorem aa.DT (aO:bL P Γ) (I:Ok s L) {t bG e:TypeId} {x y:Operand} {it cp aB:bJ} {dL bV:Nat} {ys:List ad} {dh:bU} (ao:guardOf ops env o=some true) (ar:o.dst=some d) (aX:Nat.blt d N=true)
  (ag:o.op = .call { callee := .builtin .append,args := #[x,y],argTypes := #[t,bG] }) (aK:Γ.get? t=some it) (bo:it.bz = .aA e) (cS:Γ.get? bG=some cp) (dp:∀ k,cp.bz ≠ .int k)
  (bF:Γ.get? e=some aB) (U:aB.size=1) (dJ:Nat.beq aB.zero.cells.size aB.size=true) (ab:aJ env x=some (.aA dL [] .nil)) (ay:aJ env y=some (.aA bV ys dh)) (cY:bV=1) (dB:ys.all eN=true) (cB:1≤ys.length) (an:ys.length*aB.bytes≤140737488355328) (dY:ys.length≤9223372036854775807)
  (h:∀ aT b' cs',cs'.length=b'→ys.length≤b'→cs'.take ys.length=ys→Ok s ((.own aT,.box e cs')::L)→aa P N ops l Q ((d,dG aT ys.length b')::env) (aQ s ((.own aT,.box e cs')::L))):aa P N ops (o::l) Q env (aQ s L):=by
 refine aa.op ao ar aX (aU.DT aO I ag aK bo cS dp bF U dJ ab ay cY dB cB an dY (X:=fun _ _=>False)) ?_ (fun _ _ h=>h.elim);rintro r ah ⟨aT,b',cs',rfl,rfl,ae,al,bl,bD⟩;exact h aT b' cs' al bl bD ae
theorem aa.DU (aO:bL P Γ) (I:Ok s L) {t bG e:TypeId} {x y:Operand} {it cp aB:bJ} {b n cap bV:Nat} {cs ys:List ad} {dh:bU} (ao:guardOf ops env o=some true) (ar:o.dst=some d) (aX:Nat.blt d N=true)
  (ag:o.op = .call { callee := .builtin .append,args := #[x,y],argTypes := #[t,bG] }) (aK:Γ.get? t=some it) (bo:it.bz = .aA e) (cS:Γ.get? bG=some cp) (dp:∀ k,cp.bz ≠ .int k)
  (bF:Γ.get? e=some aB) (U:aB.size=1) (dJ:Nat.beq aB.zero.cells.size aB.size=true) (ab:aJ env x=some (dG b n cap)) (aw:aP L (.own b) (.box e cs) R) (cE:cs.length=cap) (aC:n≤cap) (gz:(cs.take n).all eN=true)
  (ay:aJ env y=some (.aA bV ys dh)) (cY:bV=1) (dB:ys.all eN=true) (an:(n+ys.length)*aB.bytes≤140737488355328) (dY:n+ys.length≤9223372036854775807)
  (h:∀ aT b' cs',cs'.length=b'→n+ys.length≤b'→cs'.take (n+ys.length)=cs.take n++ys→Ok s ((.own aT,.box e cs')::R)→aa P N ops l Q ((d,dG aT (n+ys.length) b')::env) (aQ s ((.own aT,.box e cs')::R))):aa P N ops (o::l) Q env (aQ s L):=by
 refine aa.op ao ar aX (aU.DU aO I ag aK bo cS dp bF U dJ ab aw cE aC gz ay cY dB an dY (X:=fun _ _=>False)) ?_ (fun _ _ h=>h.elim);rintro r ah ⟨aT,b',cs',rfl,rfl,ae,al,bl,bD⟩;exact h aT b' cs' al bl bD ae
end
end Go.bj
namespace Go.bj
section
variable {P:Program} {Γ:cg} {N:Nat} {ops:Array Oper} {Q:b2→Env→aj→Prop} {env:Env} {s:aj} {l:List Oper} {o:Oper} {d:Nat} {L R:a6}
def p9 (b off n cap:Nat):ad := .gx (.slice (some ⟨b,off,none⟩) n cap)
theorem Ij {t bG:TypeId} {x y:Operand} {a:Act} {val:Value} {w w':World} (ag:o.op = .call { callee := .builtin .copy,args := #[x,y],argTypes := #[t,bG] }) (h:(Builtin.copy_ #[t,bG] o.type #[a.eval x,a.eval y]).run P w = .ok val w') :
  (execOp a.eval o).run P w = .ok (.value val) w':=by
 unfold execOp;rw [ag];simp only [resolve,invoke,builtin,Sem.run_bind,Sem.run_pure,Result.andThen_ok,List.map_toArray,List.map_cons,List.map_nil,h]
theorem Ik (I:Ok s L) {w:World} {p:bN} {b off:Nat} {e:TypeId} {cs ys:List ad} {us:List Value} {vs:Array Value} (b6:c0 w p (aQ s L)) (aw:aP L (.own b) (.box e cs) R) (cr:w.heap[b]? = some (.cells vs e (0,0))) (cJ:bO w p vs.toList cs) (hu:bO w p us ys) (eU:off+ys.length≤cs.length) :
  cV w p (w.setRow b (vs.toList.take off++us++vs.toList.drop (off+us.length)).toArray) p∧Kept (aQ s L) (aQ s ((.own b,.box e (cs.take off++ys++cs.drop (off+ys.length)))::R)) w p (w.setRow b (vs.toList.take off++us++vs.toList.drop (off+us.length)).toArray) p ∧
   c0 (w.setRow b (vs.toList.take off++us++vs.toList.drop (off+us.length)).toArray) p (aQ s ((.own b,.box e (cs.take off++ys++cs.drop (off+ys.length)))::R))∧Ok s ((.own b,.box e (cs.take off++ys++cs.drop (off+ys.length)))::R):=by
 have lu:=hu.length;have pR:=cJ.length;have gq:bO w p (vs.toList.take off++us++vs.toList.drop (off+us.length)) (cs.take off++ys++cs.drop (off+ys.length)):=by
  rw [lu];exact bO.append (bO.append (cJ.take _) hu) (cJ.drop _)
 obtain ⟨dU,jd,je⟩:=tt b6 (aw.get I) (vs':=(vs.toList.take off++us++vs.toList.drop (off+us.length)).toArray) (cs':=cs.take off++ys++cs.drop (off+ys.length)) (fun xW bB=>by
  rw [cr] at bB;cases bB
  rw [Array.length_toList] at pR
  simp only [List.size_toArray,List.length_append,List.length_take,List.length_drop,Array.length_toList]
  omega) (by simpa using gq) _ C
 obtain ⟨f1,f2⟩:=aw.put (.box e (cs.take off++ys++cs.drop (off+ys.length))) I;rw [f1] at jd je;exact ⟨dU,jd,je,f2⟩
theorem aU.DW (aO:bL P Γ) (I:Ok s L) {t bG e:TypeId} {x y:Operand} {it aB:bJ} {b off dl pc bV:Nat} {cs ys:List ad} {dh:bU}
  (ag:o.op = .call { callee := .builtin .copy,args := #[x,y],argTypes := #[t,bG] }) (aK:Γ.get? t=some it) (bo:it.bz = .aA e) (bF:Γ.get? e=some aB) (U:aB.size=1) (ab:aJ env x=some (p9 b off dl pc)) (aw:aP L (.own b) (.box e cs) R)
  (ay:aJ env y=some (.aA bV ys dh)) (cY:bV=1) (dB:ys.all eN=true) (ar:ys.length≤dl) (eU:off+ys.length≤cs.length) {X:ad→aj→Prop} :
  aU P N o env (aQ s L) (fun r ah=>r = .int .i64 ys.length∧ah=aQ s ((.own b,.box e (cs.take off++ys++cs.drop (off+ys.length)))::R)∧Ok s ((.own b,.box e (cs.take off++ys++cs.drop (off+ys.length)))::R)) X:=by
 refine aU.jo h6 fun ro B a w p aF=>?_
 have fw:=aF.aJ ab;have eV:=aF.aJ ay;have ei:=fun val w'=>Ij (P:=P) (a:=a) (val:=val) (w:=w) (w':=w') ag
 generalize dQ:a.eval x=dr at fw ei;generalize eO:a.eval y=fp at eV ei;cases fw;obtain ⟨info,d,g1,g2,g3,-⟩:=aO.parts aK;obtain ⟨iH,jq,cz,dj,ft,ej,kW,kX⟩:=aO.parts bF;have cb:d = .slice e:=by rw [bo] at g3;cases d<;>simp [dP] at g3;rw [g3]
 subst cb;subst cY;obtain ⟨us,hs,nX,iI,i',q0,q1,q2⟩:=oV (sz':=1) eV (.inr rfl);have lu:=hs.length;have k5:∀ x∈us,x.oneCell'=true:=oT hs dB;have rm:flat us=us:=rl k5;obtain ⟨vs,cr,cJ,dW⟩:=aF.wf.obj _ _ (aw.get I);have pR:=cJ.length;rw [Array.length_toList] at pR;have aI:=iI P;have ba:=i' P w (fun _ _ _=>rfl);rw [rm] at ba;have tQ:=run_storeCells_at P b off e us 0 vs w cr ai k5;simp only [Nat.add_zero] at tQ;have PU:Nat.min ys.length dl=ys.length:=Nat.min_eq_left ar;have cx:(Builtin.copy_ #[t,bG] o.type #[.slice (some ⟨b,off,none⟩) dl pc,fp]).run P w = .ok (.int .i64 ys.length) (w.setRow b (vs.toList.take off++us++vs.toList.drop (off+us.length)).toArray):=by
  simp [Builtin.copy_,run_underlying g2,sizeOf,typeInfo,cz,ej,U,aI,PU,ba,tQ,goInt]
 obtain ⟨dD,c1,dn,lq⟩:=Ik I aF.wf aw cr cJ hs eU;exact ⟨_,_,_,p,_,ei _ _ cx,dD,c1,dn,⟨rfl,rfl,lq⟩,.int _ _⟩
theorem aU.yc (aO:bL P Γ) (I:Ok s L) {t bG e:TypeId} {x y:Operand} {it aB:bJ} {b off dl pc im bw vU k:Nat} {cs:List ad}
    (ag:o.op = .call { callee := .builtin .copy,args := #[x,y],argTypes := #[t,bG] }) (aK:Γ.get? t=some it) (bo:it.bz = .aA e) (bF:Γ.get? e=some aB) (U:aB.size=1) (ab:aJ env x=some (p9 b off dl pc)) (aw:aP L (.own b) (.box e cs) R)
    (ay:aJ env y=some (p9 b im bw vU)) (aD:k=min bw dl) (dB:((cs.drop im).take k).all eN=true) (ae:im+k≤cs.length) (eU:off+k≤cs.length) {X:ad→aj→Prop} :
    aU P N o env (aQ s L) (fun r ah=>r = .int .i64 k∧ah=aQ s ((.own b,.box e (cs.take off++(cs.drop im).take k++cs.drop (off+k)))::R)∧Ok s ((.own b,.box e (cs.take off++(cs.drop im).take k++cs.drop (off+k)))::R)) X:=by
  refine aU.jo h6 fun ro B a w p aF=>?_
  have fw:=aF.aJ ab;have eV:=aF.aJ ay;have ei:=fun val w'=>Ij (P:=P) (a:=a) (val:=val) (w:=w) (w':=w') ag
  generalize dQ:a.eval x=dr at fw ei;generalize eO:a.eval y=fp at eV ei;cases fw;cases eV;obtain ⟨info,d,g1,g2,g3,-⟩:=aO.parts aK;obtain ⟨iH,jq,cz,dj,ft,ej,kW,kX⟩:=aO.parts bF;have cb:d = .slice e:=by rw [bo] at g3;cases d<;>simp [dP] at g3;rw [g3]
  subst cb;obtain ⟨vs,cr,cJ,dW⟩:=aF.wf.obj _ _ (aw.get I);have pR:=cJ.length;have qW:bO w p ((vs.toList.drop im).take k) ((cs.drop im).take k):=(cJ.drop _).take _;have k5:=oT qW dB;have ju:((vs.toList.drop im).take k).length=k:=by rw [List.length_take,List.length_drop];omega
  have cE:((cs.drop im).take k).length=k:=by rw [List.length_take,List.length_drop];omega
  rw [Array.length_toList] at pR
  have cx:=run_copy_row P w t bG o.type e b off dl pc ⟨b,im,none⟩ bw vU vs e ((vs.toList.drop im).take k) g2 (by rw [cz];simp [ej,U]) cr (by rw [ju,aD]) (fun j u hu=>by
    rw [j4,iz cr]
    rw [List.getElem?_take] at hu
    split at hu
    · rw [List.getElem?_drop] at hu
      simpa using hu
    · cases hu) (by rw [ju];omega) k5
  rw [ju] at cx;obtain ⟨dD,c1,dn,lq⟩:=Ik (off:=off) I aF.wf aw cr cJ qW (by rw [cE];exact eU);rw [ju] at dD c1 dn;rw [cE] at c1 dn lq;exact ⟨_,_,_,p,_,ei _ _ cx,dD,c1,dn,⟨rfl,rfl,lq⟩,.int _ _⟩
theorem aa.DW (aO:bL P Γ) (I:Ok s L) {t bG e:TypeId} {x y:Operand} {it aB:bJ} {b off dl pc bV:Nat} {cs ys:List ad} {dh:bU} (ao:guardOf ops env o=some true) (ar:o.dst=some d) (aX:Nat.blt d N=true)
  (ag:o.op = .call { callee := .builtin .copy,args := #[x,y],argTypes := #[t,bG] }) (aK:Γ.get? t=some it) (bo:it.bz = .aA e) (bF:Γ.get? e=some aB) (U:aB.size=1) (ab:aJ env x=some (p9 b off dl pc)) (aw:aP L (.own b) (.box e cs) R)
  (ay:aJ env y=some (.aA bV ys dh)) (cY:bV=1) (dB:ys.all eN=true) (nD:ys.length≤dl) (eU:off+ys.length≤cs.length)
  (h:Ok s ((.own b,.box e (cs.take off++ys++cs.drop (off+ys.length)))::R)→aa P N ops l Q ((d,.int .i64 ys.length)::env) (aQ s ((.own b,.box e (cs.take off++ys++cs.drop (off+ys.length)))::R))):aa P N ops (o::l) Q env (aQ s L):=
 aa.op ao ar aX (aU.DW aO I ag aK bo bF U ab aw ay cY dB nD eU (X:=fun _ _=>False)) (fun x ah ⟨U,ae,al⟩=>by subst U;subst ae;exact h al) (fun _ _ h=>h.elim)
theorem aa.yc (aO:bL P Γ) (I:Ok s L) {t bG e:TypeId} {x y:Operand} {it aB:bJ} {b off dl pc im bw vU:Nat} (k:Nat) {cs:List ad} (ao:guardOf ops env o=some true) (ar:o.dst=some d) (aX:Nat.blt d N=true)
  (ag:o.op = .call { callee := .builtin .copy,args := #[x,y],argTypes := #[t,bG] }) (aK:Γ.get? t=some it) (bo:it.bz = .aA e) (bF:Γ.get? e=some aB) (U:aB.size=1) (ab:aJ env x=some (p9 b off dl pc)) (aw:aP L (.own b) (.box e cs) R)
  (ay:aJ env y=some (p9 b im bw vU)) (aD:k=min bw dl) (dB:((cs.drop im).take k).all eN=true) (ae:im+k≤cs.length) (eU:off+k≤cs.length)
  (h:Ok s ((.own b,.box e (cs.take off++(cs.drop im).take k++cs.drop (off+k)))::R)→aa P N ops l Q ((d,.int .i64 k)::env) (aQ s ((.own b,.box e (cs.take off++(cs.drop im).take k++cs.drop (off+k)))::R))):aa P N ops (o::l) Q env (aQ s L):=
 aa.op ao ar aX (aU.yc aO I ag aK bo bF U ab aw ay aD dB ae eU (X:=fun _ _=>False)) (fun x ah ⟨U,ae,al⟩=>by subst U;subst ae;exact h al) (fun _ _ h=>h.elim)
theorem bm.yc {J:aj→Prop} {m:Nat} (i:Nat) (aO:bL P Γ) (I:Ok s L) {t bG e:TypeId} {x y:Operand} {it aB:bJ} {b off dl pc im bw vU:Nat} (k:Nat) {cs:List ad} (az:ed l.toArray m (idxs 0 l)=[i]) (aY:l.toArray[i]? = some o) (ar:o.dst=some d) (aX:Nat.blt d N=true)
  (ao:guardOf l.toArray (bc env (looks l.toArray o)) o=some true)
  (ag:o.op = .call { callee := .builtin .copy,args := #[x,y],argTypes := #[t,bG] }) (aK:Γ.get? t=some it) (bo:it.bz = .aA e) (bF:Γ.get? e=some aB) (U:aB.size=1) (ab:aJ (bc env (looks l.toArray o)) x=some (p9 b off dl pc)) (aw:aP L (.own b) (.box e cs) R)
  (ay:aJ (bc env (looks l.toArray o)) y=some (p9 b im bw vU)) (aD:k=min bw dl) (dB:((cs.drop im).take k).all eN=true) (ae:im+k≤cs.length) (eU:off+k≤cs.length)
  (aS:Ok s ((.own b,.box e (cs.take off++(cs.drop im).take k++cs.drop (off+k)))::R)→J (aQ s ((.own b,.box e (cs.take off++(cs.drop im).take k++cs.drop (off+k)))::R))∨jL l.toArray i=true)
  (h:Ok s ((.own b,.box e (cs.take off++(cs.drop im).take k++cs.drop (off+k)))::R)→bm J P Γ N l.toArray Q (bR (m|||2^i)) ((d,.int .i64 k)::env) (aQ s ((.own b,.box e (cs.take off++(cs.drop im).take k++cs.drop (off+k)))::R))):bm J P Γ N l.toArray Q (bR m) env (aQ s L):=
 bm.one az aY ar aX ao (aU.yc aO I ag aK bo bF U ab aw ay aD dB ae eU (X:=fun _ _=>False)) (fun x ah ⟨U,ae,al⟩=>by subst U;subst ae;exact aS al) (fun x ah ⟨U,ae,al⟩=>by subst U;subst ae;exact h al) (fun _ _ h=>h.elim)
theorem aU.DX (aO:bL P Γ) {t e:TypeId} {x y:Operand} {it aB:bJ} {b n cap k:Nat} {o9:IntKind} (ag:o.op = .slice t x (some y) none none) (aK:Γ.get? t=some it) (bo:it.bz = .aA e) (bF:Γ.get? e=some aB) (U:aB.size=1) (ab:aJ env x=some (dG b n cap)) (ay:aJ env y=some (.int o9 (k:Int))) (aD:k≤n) (aC:n≤cap) (zN:k<cap) :
  aU P N o env s (fun x ah=>x=p9 b k (n-k) (cap-k)∧ah=s) (fun _ _=>False):=by
 refine aU.l2 h6 fun ro B a w p aF=>?_
 obtain ⟨info,d,g1,g2,g3,-⟩:=aO.parts aK;obtain ⟨iH,jq,cz,dj,ft,ej,-⟩:=aO.parts bF;have ar:d = .slice e:=by rw [bo] at g3;cases d<;>simp [dP] at g3;rw [g3]
 subst ar;have az:=aF.aJ ab;have eV:=aF.aJ ay;generalize dQ:a.eval x=dr at az;generalize eO:a.eval y=fp at eV;cases az;cases eV;refine .same (val := .slice (some ⟨b,k,none⟩) (n-k) (cap-k)) ?_ (.gx _);unfold execOp;rw [ag];simp only [dQ,Option.map_none,Option.map_some,eO];refine fU ?_;have j6:(k:Int)≤(n:Int):=by omega
 have rv:(n:Int)≤(cap:Int):=by omega
 have an:(Instr.sliceBounds true n cap (some (.int o9 (k:Int))) none none).run P w = .ok (k,n,cap) w:=by
  simp [Instr.sliceBounds,run_sliceBound,j6,rv]
 have bB:cap-k≠0:=by omega
 simp only [Instr.sliceAt,Instr.slice,Sem.run_bind,run_underlying g2,Result.andThen_ok,an,sizeOf,typeInfo,run_program,cz,Sem.run_pure,ej,U];simp [bB,j4];intro c';omega
theorem bm.DX {J:aj→Prop} {m:Nat} (i:Nat) (aO:bL P Γ) (dX:J s) {t e:TypeId} {x y:Operand} {it aB:bJ} {b n cap:Nat} (k:Nat) {o9:IntKind} (az:hJ l.toArray m i=true) (aY:l.toArray[i]? = some o) (ar:o.dst=some d) (aX:Nat.blt d N=true)
  (ao:guardOf l.toArray (bc env (looks l.toArray o)) o=some true) (ag:o.op = .slice t x (some y) none none) (aK:Γ.get? t=some it) (bo:it.bz = .aA e) (bF:Γ.get? e=some aB) (U:aB.size=1) (ab:aJ (bc env (looks l.toArray o)) x=some (dG b n cap)) (ay:aJ (bc env (looks l.toArray o)) y=some (.int o9 (k:Int))) (aD:k≤n) (aC:n≤cap) (zN:k<cap)
  (h:bm J P Γ N l.toArray Q (bR (m|||2^i)) ((d,p9 b k (n-k) (cap-k))::env) s):bm J P Γ N l.toArray Q (bR m) env s:=
 bm.pY dX az aY ar aX ao (fun _ _=>aU.DX aO ag aK bo bF U ab ay aD aC zN) h
theorem bm.x1 {J:aj→Prop} {m:Nat} (i:Nat) (aO:bL P Γ) (dX:J s) {t e:TypeId} {x y:Operand} {it aB:bJ} {b n cap:Nat} (k:Nat) {o9:IntKind} (az:hJ l.toArray m i=true) (aY:l.toArray[i]? = some o) (ar:o.dst=some d) (aX:Nat.blt d N=true)
  (ao:guardOf l.toArray (bc env (looks l.toArray o)) o=some true) (ag:o.op = .slice t x none (some y) none) (aK:Γ.get? t=some it) (bo:it.bz = .aA e) (bF:Γ.get? e=some aB) (ab:aJ (bc env (looks l.toArray o)) x=some (dG b n cap)) (ay:aJ (bc env (looks l.toArray o)) y=some (.int o9 (k:Int))) (aD:k≤cap)
  (h:bm J P Γ N l.toArray Q (bR (m|||2^i)) ((d,dG b k cap)::env) s):bm J P Γ N l.toArray Q (bR m) env s:=
 bm.pY dX az aY ar aX ao (fun _ _=>aU.x1 aO ag aK bo bF ab ay aD) h
end
end Go.bj
namespace Go.bj
section
variable {J:aj→Prop} {P:Program} {Γ:cg} {N:Nat} {Q:b2→Env→aj→Prop} {env:Env} {s:aj} {l:List Oper} {o:Oper} {d m:Nat}
theorem bm.p' (i:Nat) (dX:J s) {g:Operand} {name:String} {fi:Array Operand} {cP:Array TypeId} {t:TypeId} {v:ad} {f:FuncId} {xs:List ad} {r:ad} (az:hJ l.toArray m i=true) (aY:l.toArray[i]? = some o) (ar:o.dst=some d) (aX:Nat.blt d N=true)
  (ao:guardOf l.toArray (bc env (looks l.toArray o)) o=some true) (ag:o.op = .call { callee := .invoke g name,args:=fi,argTypes:=cP }) (av:aJ (bc env (looks l.toArray o)) g=some (.iface t v)) (aV:fg (bc env (looks l.toArray o)) fi.toList=some xs) (hm:n1 P t name f) (h:a7 P f (v::xs) r)
  (aD:bm J P Γ N l.toArray Q (bR (m|||2^i)) ((d,r)::env) s):bm J P Γ N l.toArray Q (bR m) env s:=
 bm.pY dX az aY ar aX ao (fun s _=>(aU.invoke ag av aV hm (h s)).mono (fun x ah h=>by cases h.1;exact ⟨rfl,h.2⟩) (fun x ah h=>by cases h.1)) aD
end
end Go.bj
namespace Go.bj
section
variable {J:aj→Prop} {P:Program} {Γ:cg} {N:Nat} {l:List Oper} {i:Nat} {rest:List Oper} {Q:b2→Env→aj→Prop} {env:Env} {s:aj} {o:Oper} {d:Nat}
theorem aM.p' {g:Operand} {name:String} {fi:Array Operand} {cP:Array TypeId} {t:TypeId} {v:ad} {f:FuncId} {xs:List ad} {r:ad} (ao:guardOf l.toArray (bc env (looks l.toArray o)) o=some true) (ar:o.dst=some d) (aX:Nat.blt d N=true)
  (ag:o.op = .call { callee := .invoke g name,args:=fi,argTypes:=cP }) (av:aJ (bc env (looks l.toArray o)) g=some (.iface t v)) (aV:fg (bc env (looks l.toArray o)) fi.toList=some xs) (hm:n1 P t name f) (h:a7 P f (v::xs) r)
  (aD:aM J P Γ N l (i+1) rest Q ((d,r)::env) s):aM J P Γ N l i (o::rest) Q env s:=
 aM.calm ao ar aX (fun s _=>(aU.invoke ag av aV hm (h s)).mono (fun x ah h=>by cases h.1;exact ⟨rfl,h.2⟩) (fun x ah h=>by cases h.1)) aD
end
end Go.bj
namespace Go.bj
section
variable {J:aj→Prop} {P:Program} {Γ:cg} {N:Nat} {l:List Oper} {i:Nat} {rest:List Oper} {Q:b2→Env→aj→Prop} {env:Env} {s:aj} {o:Oper} {d:Nat}
theorem aM.fO {L R K:a6} {X3:eb→a6→Prop} {g:Operand} {fv:ad} {fi:Array Operand} {cP:Array TypeId} {xs:List ad} (ao:guardOf l.toArray (bc env (looks l.toArray o)) o=some true) (ar:o.dst=some d) (aX:Nat.blt d N=true) (kD:jL l.toArray i=true)
  (bW:o.op = .call { callee := .value g,args:=fi,argTypes:=cP }) (av:aJ (bc env (looks l.toArray o)) g=some fv) (aV:fg (bc env (looks l.toArray o)) fi.toList=some xs) (h:c2 P fv xs K X3) (I:Ok s L) (aw:au L K R)
  (aD:∀ x aL,X3 (.ret x) aL→Ok s (aL++R)→Q .normal ((d,x)::env) (aQ s (aL++R))) (ab:∀ x aL,X3 (.panic x) aL→Ok s (aL++R)→Q (.panic x) [] (aQ s (aL++R))):aM J P Γ N l i [o] Q env (aQ s L):=
 aM.last ao ar aX kD (aU.fO bW av aV h I aw) (fun x ah ⟨aL,U,ae,al⟩=>by subst U;exact aD x aL al ae) (fun x ah ⟨aL,U,ae,al⟩=>by subst U;exact ab x aL al ae)
end
end Go.bj
namespace Go.bj
section
variable {J:aj→Prop} {P:Program} {Γ:cg} {N:Nat} {l:List Oper} {i:Nat} {rest:List Oper} {Q:b2→Env→aj→Prop} {env:Env} {s:aj} {o:Oper} {d:Nat}
theorem aM.e7 (aO:bL P Γ) {t e:TypeId} {x y:Operand} {it aB:bJ} {b n cap:Nat} {k:IntKind} {z:Int} (j:Nat) (ao:guardOf l.toArray (bc env (looks l.toArray o)) o=some true) (ar:o.dst=some d) (aX:Nat.blt d N=true)
  (ag:o.op = .indexAddr t x y) (aK:Γ.get? t=some it) (bo:it.bz = .aA e) (bF:Γ.get? e=some aB)
  (ab:aJ (bc env (looks l.toArray o)) x=some (dG b n cap)) (ay:aJ (bc env (looks l.toArray o)) y=some (.int k z)) (ek:z=(j:Int)) (aS:j<n)
  (h:aM J P Γ N l (i+1) rest Q ((d,.ptr b (j*aB.size))::env) s):aM J P Γ N l i (o::rest) Q env s:=
 aM.calm ao ar aX (fun _ _=>aU.e7 aO ag aK bo bF ab ay ek aS) h
end
end Go.bj
namespace Go.Proofs.YtnafpeohfbglmaaGreat
open Go.bj Go.bY
theorem Il:∀ {g:List bC} {len i k:Nat} {x:bC},nz len i g=true→g[k]? = some x→hx len (i+k) x=true
  | y::r,len,i,0,x,h,ab=>by
    rw [nz,Bool.and_eq_true] at h;simp at ab;subst ab;exact h.1
  | y::r,len,i,k+1,x,h,ab=>by
    rw [nz,Bool.and_eq_true] at h;have:=Il (k:=k) h.2 (by simpa using ab);rw [show i+(k+1)=i+1+k by omega];exact this
theorem ry {g:List bC} {k:Nat} {x:bC} (h:fP g=true) (ab:g[k]? = some x):hx g.length k x=true:=by
 unfold fP at h;simp only [Bool.and_eq_true] at h;have:=Il h.2.2 ab;rwa [Nat.zero_add] at this
theorem vV {g:List bC} (h:fP g=true):1≤g.length∧g.length≤300:=by
 unfold fP at h;simp only [Bool.and_eq_true,decide_eq_true_eq] at h;exact ⟨h.1,h.2.1⟩
theorem vW:∀ (g:List bC) (i:Nat),(fc i g).length=g.length
 | [],_=>rfl
 | x::r,i=>by rw [fc,List.length_cons,List.length_cons,vW r]
theorem vX {l:List Int} {j:Nat} {n:Int} (aC:0≤n) (h:∀ v∈l,0≤v∧v≤n):0≤l.getD j 0∧l.getD j 0≤n:=by
 rw [List.getD_eq_getElem?_getD];cases aS:l[j]? with
 | none=>exact ⟨Int.le_refl _,aC⟩
 | some v=>exact h v (List.mem_of_getElem? aS)
theorem rz:∀ (g:List bC) (i:Nat),∀ v∈fc i g,0≤v∧v≤g.length
  | [],_,v,h=>by cases h
  | x::r,i,v,h=>by
    have a':=rz r (i+1);have U:=vX (j:=x.no.toNat-(i+1)) ai a';have ae:=vX (j:=x.yes.toNat-(i+1)) ai a';rw [fc] at h;rw [List.length_cons];rcases List.mem_cons.1 h with rfl|h
    · split<;>omega
    · have:=a' v h;omega
def ht (g:List bC) (j:Nat):List Int:=List.replicate j 0++fc j (g.drop j)
theorem DY {g:List bC} {j:Nat} (h:j≤g.length):(ht g j).length=g.length:=by
 unfold ht;rw [List.length_append,List.length_replicate,vW,List.length_drop];omega
theorem AU {g:List bC} {k:Nat} {n:Int} (U:n>(k:Int)) (ae:n<(g.length:Int)):((ht g (k+1)).map bg)[n.toNat*1]? = some (.int .i64 ((fc (k+1) (g.drop (k+1))).getD (n.toNat-(k+1)) 0)):=by
 have aI:n.toNat<(ht g (k+1)).length:=by rw [DY ai];omega
 unfold ht at aI ⊢;rw [Nat.mul_one,List.getElem?_map,List.getElem?_append_right dq,List.length_replicate,List.getD_eq_getElem?_getD];rw [List.length_append,List.length_replicate] at aI;rw [List.getElem?_eq_getElem ai];rfl
theorem Im {g:List bC} {k:Nat} {x:bC} {v:Int} (ab:g[k]? = some x) (aV:x.atom≥0) (av:v=1+max ((fc (k+1) (g.drop (k+1))).getD (x.no.toNat-(k+1)) 0) ((fc (k+1) (g.drop (k+1))).getD (x.yes.toNat-(k+1)) 0)) :
  eg (k*1) [.int .i64 v] ((ht g (k+1)).map bg)=(ht g k).map bg:=by
 rw [ru,Nat.mul_one];unfold ht;rw [drop_cons ab,fc,if_pos aV,← av,List.replicate_succ',List.append_assoc,List.map_append,List.map_append,List.set_append_right _ _ bn];simp [bg]
theorem Io {g:List bC} {k:Nat} {x:bC} (ab:g[k]? = some x) (aV:¬ x.atom≥0):ht g (k+1)=ht g k:=by
 unfold ht;rw [drop_cons ab,fc,if_neg aV,List.replicate_succ',List.append_assoc];rfl
theorem Ip (g:List bC) (ao:g.length<bt):a7 Tryz.prog 18 [eR g] (.cl [.int .i64 (if fP g then iD g else 0),.int .i64 (if fP g then 0 else 2)]):=by
 have an:=bQ;refine a7.bp ak call18 Tryz.func18 C C fun s I=>?_
 have ba:=DS g ao;unfold eR at *;cases gD:fP g with
 | false=>
  rw [gD] at ba;refine cy ?_;exact bA I
 | true=>
 rw [gD] at ba;obtain ⟨l6,ev⟩:=vV gD;have jc:((g.map de).length:Int)=(g.length:Int):=by rw [List.length_map]
 refine cy ?_;refine aa.su ak I g.length C C C C C C C C C C (congrArg (fun z=>some (ad.int .i64 z)) jc) (congrArg (fun z=>some (ad.int .i64 z)) jc) (by show _*8≤_;omega) ai (fun b I=>?_);rw [show List.replicate g.length (ad.int .i64 0)=(ht g g.length).map bg by unfold ht;rw [fC (Nat.le_refl _),fc,List.append_nil,List.map_replicate];rfl] at I ⊢;refine bP ?_;have hw:IntKind.wrap .i64 ((g.length:Int)-1)=(g.length:Int)-1:=e0 ai ai;refine af.cT [0,4] C I (σ:=Nat) (fun j=>[(5,.int .i64 ((j:Int)-1))]) (fun j=>[(.own b,.box 3 ((ht g j).map bg))]) (fun j=>j≤g.length) (fun j=>j) g.length (Nat.le_refl _) xR bM ?_;rintro j aS I;refine cL ?_;cases j with
 | zero=>
  refine af.cond C (fun h=>by simp at h) (fun _=>?_);refine bP ?_;refine aa.e7 ak 0 C C C C C C C C C C ai ?_
  refine aa.kE ak I C C C C C C a1 C (v := .int .i64 (iD g)) (by
   unfold ht iD
   rw [List.drop_zero,List.replicate_zero,List.nil_append,List.getElem?_map,List.getElem?_eq_getElem (by rw [vW];omega),List.getD_eq_getElem?_getD,List.getElem?_eq_getElem (by rw [vW];omega)];rfl) ?_
  refine dO ?_;exact bA I
 | succ k=>
 have e:(((k+1:Nat):Int)-1)=(k:Int):=by omega
 rw [e];refine af.cond C (fun _=>?_) (fun h=>by simp at h);obtain ⟨x,ab,ch⟩:=cD (f:=de) (show k<g.length by omega);have aX:=ry gD ab;unfold de fj bI at ch;refine fA ?_;refine af.cond C (fun aV=>?_) (fun aV=>?_);rotate_left
 ·have aV:¬ x.atom≥0:=by simpa using aV
  rw [Io ab aV] at I ⊢;refine gi ?_;exact bX.mk k I (by show k≤g.length;omega) sj bM (by show k<k+1;omega)
 have aV:x.atom≥0:=by simpa using aV
 have dN:=(iS ai).1 aX;have hH:=vX (j:=x.no.toNat-(k+1)) (n:=300) ai (fun v av=>⟨(rz (g.drop (k+1)) (k+1) v av).1,by have:=(rz (g.drop (k+1)) (k+1) v av).2;rw [List.length_drop] at this;omega⟩);have PV:=vX (j:=x.yes.toNat-(k+1)) (n:=300) ai (fun v av=>⟨(rz (g.drop (k+1)) (k+1) v av).1,by have:=(rz (g.drop (k+1)) (k+1) v av).2;rw [List.length_drop] at this;omega⟩)
 have qS:=Im ab aV (v:=IntKind.wrap .i64 (1+(if (fc (k+1) (g.drop (k+1))).getD (x.yes.toNat-(k+1)) 0>(fc (k+1) (g.drop (k+1))).getD (x.no.toNat-(k+1)) 0 then (fc (k+1) (g.drop (k+1))).getD (x.yes.toNat-(k+1)) 0 else (fc (k+1) (g.drop (k+1))).getD (x.no.toNat-(k+1)) 0))) (by
  rw [e0 ub ub];split<;>omega)
 refine n8 ?_;refine aM.e7 ak x.no.toNat C C C C C C C C C ai ai ?_;refine aM.kE ak I C C C C C C a1 C (AU dN.2.2.1 dN.2.2.2.1) ?_;refine cH ?_;refine aM.e7 ak x.yes.toNat C C C C C C C C C ai ai ?_;refine aM.kE ak I C C C C C C a1 C (AU dN.2.2.2.2.1 dN.2.2.2.2.2.1) ?_;refine cH ?_;refine aM.e7 ak k C C C C C C C C C C ai ?_;refine aM.kF ak I _ C C C C C C C C C C a1 (by rw [List.length_map,DY ai];show k*1+1≤_;omega) qS (fun I=>?_);refine gi ?_;exact bX.mk k I (by show k≤g.length;omega) sj bM (by show k<k+1;omega)
end Go.Proofs.YtnafpeohfbglmaaGreat
namespace Go.bY
def um:Nat→List (List Int)→Bool
 | _,[]=>true
 | i,l::r=>ny 3 i [] l&&um (i+1) r
structure kc (w:bT):Prop where
 mP:w.bK.length≤60
 short:∀ l∈w.bK,l.length≤3
 od:um 0 w.bK=true
 bx:w.owner.length≤40
 own:∀ o∈w.owner,3≤o∧o<3+(w.bK.length:Int)
def vY (up:List Nat) (l:List Int):Nat:=l.foldl (fun s p=>s|||up.getD p.toNat 0) (1|||2^up.length)
def pd:List Nat→List (List Int)→List Nat
 | up,[]=>up
 | up,l::r=>pd (up++[vY up l]) r
def hW (bK:List (List Int)):List Nat:=pd [1,3,5] bK
theorem Iq:∀ (bK:List (List Int)) (up:List Nat),(pd up bK).length=up.length+bK.length
 | [],up=>rfl
 | l::r,up=>by rw [pd,Iq r,List.length_append,List.length_singleton,List.length_cons];omega
theorem yd (bK:List (List Int)):(hW bK).length=3+bK.length:=Iq bK _
theorem Ir:∀ {bK:List (List Int)} {i j:Nat} {l:List Int},um i bK=true→bK[j]? = some l→ny 3 ((i+j:Nat):Int) [] l=true
  | l::r,i,0,x,h,ab=>by
    rw [um,Bool.and_eq_true] at h;have:l=x:=by simpa using ab
    subst this;exact h.1
  | l::r,i,j+1,x,h,ab=>by
    rw [um,Bool.and_eq_true] at h;have:=Ir (j:=j) h.2 (by simpa using ab);rw [show i+(j+1)=i+1+j by omega];exact this
theorem Is {i:Int}:∀ {l seen:List Int} {k:Nat} {p:Int},ny 3 i seen l=true→l[k]? = some p→3≤p∧p<3+i∧p∉seen++l.take k
  | c::r,seen,0,p,h,aN=>by
    rw [ny] at h;simp only [Bool.and_eq_true,decide_eq_true_eq,Bool.not_eq_true',List.contains_eq_mem,decide_eq_false_iff_not] at h;have:c=p:=by simpa using aN
    subst this;refine ⟨h.1,h.2.1,by simpa using h.2.2.1⟩
  | c::r,seen,k+1,p,h,aN=>by
    rw [ny] at h;simp only [Bool.and_eq_true,decide_eq_true_eq] at h;have:=Is (k:=k) h.2.2.2 (by simpa using aN);refine ⟨this.1,this.2.1,?_⟩;rw [List.take_succ_cons];have al:=this.2.2;simpa using al
theorem DZ {m n:Nat} (h:m<2^64) (k:n<2^64):m|||n<2^64:=Nat.or_lt_two_pow h k
theorem PW {up:List Nat} (h:∀ m∈up,m<2^64) (k:Nat):up.getD k 0<2^64:=by
 rw [List.getD_eq_getElem?_getD];cases ab:up[k]? with
 | none=>exact Nat.two_pow_pos 64
 | some x=>exact h x (List.mem_of_getElem? ab)
theorem D0 {up:List Nat} (h:∀ m∈up,m<2^64):∀ (l:List Int) (s:Nat),s<2^64→l.foldl (fun s p=>s|||up.getD p.toNat 0) s<2^64
 | [],s,aw=>aw
 | p::r,s,aw=>D0 h r _ (DZ aw (PW h _))
theorem PX {up:List Nat} (h:∀ m∈up,m<2^64) (aI:up.length<64) (l:List Int):vY up l<2^64:=
 D0 h l _ (DZ dd (Nat.pow_lt_pow_right ai aI))
theorem It:∀ (bK:List (List Int)) (up:List Nat),(∀ m∈up,m<2^64)→up.length+bK.length<64→∀ m∈pd up bK,m<2^64
  | [],up,h,_=>h
  | l::r,up,h,aI=>by
    rw [List.length_cons] at aI;rw [pd];refine It r _ (fun m hm=>?_) (by rw [List.length_append,List.length_singleton];omega);rcases List.mem_append.1 hm with hm|hm
    · exact h m hm
    · rw [List.mem_singleton] at hm;subst hm
      exact PX h ai l
theorem vZ {bK:List (List Int)} (h:bK.length≤60):∀ m∈hW bK,m<2^64:=
 It bK _ (by intro m hm;simp at hm;rcases hm with rfl|rfl|rfl<;>decide) dq
theorem Iu (l:List Int):∀ (bK:List (List Int)) (up:List Nat),pd up (bK++[l])=pd up bK++[vY (pd up bK) l]
 | [],up=>rfl
 | x::r,up=>by rw [List.cons_append,pd,Iu l r,← pd]
theorem PY (bK:List (List Int)) (l:List Int):hW (bK++[l])=hW bK++[vY (hW bK) l]:=Iu l bK _
def pad (u:List Nat):List Nat:=u++List.replicate (63-u.length) 0
theorem PZ {u:List Nat} (h:u.length≤63):(pad u).length=63:=by unfold pad;simp;omega
theorem v7 {u:List Nat} {i:Nat} {m:Nat} (h:u[i]? = some m):(pad u)[i]? = some m:=by
 unfold pad;rw [List.getElem?_append_left (List.getElem?_eq_some_iff.1 h).1];exact h
theorem P0 {u:List Nat} (h:u.length<63) (v:Nat):(pad u).set u.length v=pad (u++[v]):=by
 unfold pad;rw [List.set_append_right _ _ (Nat.le_refl _),Nat.sub_self,List.append_assoc,List.length_append,List.length_singleton];congr 1;obtain ⟨n,aC⟩:∃ n,63-u.length=n+1:=⟨62-u.length,by omega⟩;have ae:63-(u.length+1)=n:=by omega
 rw [aC,ae,List.replicate_succ];rfl
end Go.bY
namespace Go.bY
mutual
def hy (w:bT):ax→Bool
 | .mk o a p c n ks=>iE w (.mk o a p c n ks)&&oe w ks
def oe (w:bT):List ax→Bool
 | []=>true
 | x::r=>hy w x&&oe w r
end
theorem rA (w:bT) (f:ax):hy w f=(iE w f&&oe w f.kids):=by cases f;rw [hy];rfl
theorem lN {w:bT}:∀ {l:List ax} {x:ax},oe w l=true→x∈l→hy w x=true
  | y::r,x,h,ab=>by
    rw [oe,Bool.and_eq_true] at h;rcases List.mem_cons.1 ab with rfl|ab
    · exact h.1
    · exact lN h.2 ab
mutual
theorem uo:∀ (f:ax) (w:bT) (d:Nat) (k:Int),(eX w d k f).1=true→hy w f=true
  | .mk o a p c n ks,w,d,k,h=>by
    rw [eX] at h;split at h
    · cases h
    · split at h
      · rename_i aC
        rw [hy,aC,Bool.true_and];exact Iv ks w _ _ h
      · cases h
theorem Iv:∀ (l:List ax) (w:bT) (d:Nat) (k:Int),(hd w d k l).1=true→oe w l=true
  | [],_,_,_,_=>rfl
  | x::r,w,d,k,h=>by
    rw [hd] at h;split at h
    · rename_i ab
      rw [oe,uo x w d k ab,Iv r w d _ h];rfl
    · cases h
end
mutual
def mj:ax→Int
 | .mk o a p c n ks=>iq (if (ax.mk o a p c n ks).du then a+1 else 0) ks
def iq (m:Int):List ax→Int
 | []=>m
 | x::r=>iq (max m (mj x)) r
end
theorem D1 (f:ax):mj f=iq (if f.du then f.arg+1 else 0) f.kids:=by cases f;rw [mj];rfl
theorem Iw:∀ (l r:List ax) (m:Int),iq m (l++r)=iq (iq m l) r
 | [],r,m=>by rw [List.nil_append,iq]
 | x::l,r,m=>by rw [List.cons_append,iq,iq,Iw l r]
theorem AV:∀ (l:List ax) (m:Int),m≤iq m l∧∀ x∈l,mj x≤iq m l
  | [],m=>⟨by rw [iq];exact Int.le_refl _,fun x h=>by cases h⟩
  | x::r,m=>by
    have a':=AV r (max m (mj x));rw [iq];refine ⟨by have:=a'.1;omega,fun y ay=>?_⟩;rcases List.mem_cons.1 ay with rfl|ay
    · have:=a'.1;omega
    · exact a'.2 y ay
def gE (n:Int) (v:Int×Int):Bool:=
 if v.1=1 then nB v.2 else if v.1=2 then decide (v.2=0) else decide (v.1=3)&&(decide (v.2≥0)&&decide (v.2<n))
def mQ (w:bT) (m:Nat):List Int:=((List.range w.owner.length).filter fun s=>m.testBit (w.owner.getD s 0).toNat).map fun (s:Nat)=>(s:Int)
def v8 (w:bT) (c:Int):Bool:=decide (c≥3)&&decide (c<3+(w.bK.length:Int))
def ye (w:bT) (n:Int) (o:eW):Bool:=v8 w o.cls&&(decide (o.bx.length=(mQ w ((hW w.bK).getD o.cls.toNat 0)).length)&&o.bx.all (gE n))
def yf (w:bT) (bh:List eW):Bool:=decide (bh.length≤40)&&bh.all (ye w bh.length)
def nE (w:bT) (bh:List eW) (args:List (Int×Int)):Bool:=
 yf w bh&&(decide (args.length≥1)&&(decide (args.length≤3)&&args.all (gE bh.length)))
def nF (w:bT) (c:Int):Nat:=(hW w.bK).getD c.toNat 0
def pe (w:bT) (bh:List eW):Int×Int→List Int→Option (Int×Int)
 | v,[]=>some v
 | v,s::r=>
  let o:=bh.getD v.2.toNat default
  if v.1≠3 then none
  else if (nF w o.cls).testBit (w.owner.getD s.toNat 0).toNat then
   pe w bh (o.bx.getD (((mQ w (nF w o.cls)).findIdx? (· == s)).getD 0) (0,0)) r
  else none
def uq (w:bT) (bh:List eW) (args:List (Int×Int)) (f:ax):Bool:=
 match pe w bh (args.getD f.arg.toNat (0,0)) f.path with
 | none=>false
 | some v=>
  if f.op=2 then (if v.1=3 then (nF w (bh.getD v.2.toNat default).cls).testBit f.cls.toNat else (nF w v.1).testBit f.cls.toNat)
  else decide (v.1=1)&&((decide (v.2=f.n)==decide (f.op=4))&&decide (v.2≤f.n))
mutual
def rB (w:bT) (bh:List eW) (args:List (Int×Int)):ax→Bool
 | .mk o a p c n ks=>
  if o=1 then true
  else if o=5 then !(mR w bh args 0 ks)
  else if o=6 then mR w bh args 0 ks&&mR w bh args 1 ks
  else if o=7 then mR w bh args 0 ks||mR w bh args 1 ks
  else uq w bh args (.mk o a p c n ks)
def mR (w:bT) (bh:List eW) (args:List (Int×Int)):Nat→List ax→Bool
 | _,[]=>false
 | 0,x::_=>rB w bh args x
 | n+1,_::r=>mR w bh args n r
end
theorem AW (w:bT) (bh:List eW) (args:List (Int×Int)):∀ (n:Nat) (l:List ax) (x:ax),l[n]? = some x→mR w bh args n l=rB w bh args x
 | 0,y::r,x,h=>by rw [mR];simp at h;rw [h]
 | n+1,y::r,x,h=>by rw [mR];exact AW w bh args n r x gn
theorem P1 (w:bT) (bh:List eW) (args:List (Int×Int)) (f:ax):rB w bh args f =
  if f.op=1 then true
  else if f.op=5 then !(mR w bh args 0 f.kids)
  else if f.op=6 then mR w bh args 0 f.kids&&mR w bh args 1 f.kids
  else if f.op=7 then mR w bh args 0 f.kids||mR w bh args 1 f.kids
  else uq w bh args f:=by cases f;rw [rB];rfl
end Go.bY
namespace Go.bY
def jh (p:b9):List (List Int):=p.dH.map hK.parents
def hz:Nat→List hK→List Int
 | _,[]=>[]
 | i,c::r=>List.replicate c.bx.length ((i:Int)+3)++hz (i+1) r
def cu (p:b9):bT:=⟨jh p,hz 0 p.dH⟩
def ur:Int→List Int→Option Int
 | n,[]=>some n
 | n,s::r=>if s=n then ur (n+1) r else none
def qa:Int→List hK→Option Int
 | n,[]=>some n
 | n,c::r=>if c.bx.length≤4 then (ur n c.bx).bind fun m=>qa m r else none
def pf (cs:List hK):Nat→List Int→List Int→List Int
 | 0,_,out=>out
 | k+1,up,out=>
  if up.contains ((k:Int)+3) then pf cs k (up++(cs.getD k default).parents) (out++(cs.getD k default).bx)
  else pf cs k up out
def og (l:List Int):List Int:=l.mergeSort fun a b=>decide (a≤b)
def rC (p:b9) (c:Nat):List Int:=og (pf p.dH (c+1) [(c:Int)+3] [])
def uu (uv:List Int):List Int→List p6→Bool
 | _,[]=>true
 | seen,x::r=>uv.contains x.slot&&(!seen.contains x.slot&&(nB x.n&&uu uv (seen++[x.slot]) r))
def D2 (p:b9) (i:Nat):List Int:=(gj (jh p) (2+(jh p).length)).getD i []
def Ix (p:b9) (i:Nat) (c:hK):Bool := !(D2 p (i+3)).isEmpty&&uu (rC p i) [] c.inits
def v' (p:b9):Nat→List hK→Bool
 | _,[]=>true
 | i,c::r=>Ix p i c&&v' p (i+1) r
def rD (p:b9):Bool:=decide (p.dH.length≤10)&&((qa 0 p.dH==some p.bx)&&(oa (jh p)&&v' p 0 p.dH))
def qb (p:b9) (x:p7) (size:Int):Bool:=
 if x.op=1 then nB x.n
 else if x.op=3 then decide (x.n≥0)&&decide (x.n<size)
 else if x.op=4∨x.op=7 then decide (x.n≥0)&&decide (x.n<p.bx)
 else if x.op=6∨x.op=8 then decide (x.n≥3)&&decide (x.n<3+(p.dH.length:Int))
 else if x.op=5 then decide (x.n≥0)&&decide (x.n<(p.eY.length:Int))
 else decide (x.n≥0)&&decide (x.n<1)
def yg (p:b9) (x:p7):Option Int:=
 if x.op=5 then some (p.eY.getD x.n.toNat 0)
 else if x.op=1∨x.op=2∨x.op=3∨x.op=6∨x.op=18 then some 0
 else if x.op=4∨x.op=8∨x.op=17 then some 1
 else if x.op=7∨x.op=9∨x.op=11∨x.op=12∨x.op=13∨x.op=14∨x.op=15∨x.op=16 then some 2
 else if x.op=10 then some 3
 else none
def AX (p:b9) (next:Bool) (x:p7) (size:Int):Bool:=qb p x size&&((next||decide (x.op≠18))&&(yg p x==some (x.kids.length:Int)))
def AY (g:Int→Int→List Int→Option (List Int)) (isLet:Bool) (size:Int):Nat→List Int→List Int→Option (List Int)
 | _,[],out=>some out
 | i,k::r,out=>(g k (if isLet&&i==1 then size+1 else size) out).bind (AY g isLet size (i+1) r)
def sw (p:b9) (n:Int) (out:List Int):Bool:=decide (n≥0)&&(decide (n<(p.nodes.length:Int))&&decide (out.getD n.toNat 0<0))
def visitM (p:b9) (next:Bool):Nat→Int→Int→List Int→Option (List Int)
 | 0,_,_,_=>none
 | f+1,n,size,out=>
  if sw p n out then
   if AX p next (p.nodes.getD n.toNat default) size then AY (visitM p next f) (decide ((p.nodes.getD n.toNat default).op=9)) size 0 (p.nodes.getD n.toNat default).kids (out.set n.toNat size)
   else none
  else none
def sx (p:b9) (m:kC):Bool:=
 decide (m.kind≥1)&&(decide (m.kind≤4)&&(decide (m.gen≥0)&&(decide (m.gen<(p.eY.length:Int))&&(iQ (cu p) m.fact&&decide (mj m.fact≤p.eY.getD m.gen.toNat 0)))))
def yh (k:Int):Bool:=decide (k=1)||decide (k=4)
def qc (p:b9):List kC→List Int→Option (List Int)
 | [],out=>some out
 | m::r,out=>if sx p m then (visitM p (yh m.kind) 12 m.node (p.eY.getD m.gen.toNat 0) out).bind (qc p r) else none
def rE (p:b9):Bool:=
 decide (p.eY.length≤8)&&(decide (p.methods.length≤16)&&(decide (p.nodes.length≥1)&&(decide (p.nodes.length≤120)&&p.eY.all fun n=>decide (n≥1)&&decide (n≤3))))
def nG (p:b9):Option (List Int):=
 if rD p&&rE p then
  (qc p p.methods (List.replicate p.nodes.length (-1))).bind fun out=>(visitM p false 12 p.main 0 out).bind fun out=>if out.contains (-1) then none else some out
 else none
def hg (p:b9):Bool:=(nG p).isSome
theorem Iy:∀ (l:List hK) (i:Nat),(∀ c∈l,c.bx.length≤4)→(hz i l).length≤4*l.length
  | [],_,_=>Nat.le_refl _
  | c::r,i,h=>by
    have U:=Iy r (i+1) (fun x ab=>h x (List.mem_cons_of_mem _ ab));have ae:=h c List.mem_cons_self;rw [hz,List.length_append,List.length_replicate,List.length_cons];omega
theorem Iz:∀ (l:List hK) (i:Nat),∀ o∈hz i l,(i:Int)+3≤o∧o<3+(i:Int)+(l.length:Int)
  | [],_,o,h=>by cases h
  | c::r,i,o,h=>by
    rw [hz] at h;rcases List.mem_append.1 h with h|h
    · obtain ⟨_,rfl⟩:=List.mem_replicate.1 h
      rw [List.length_cons];omega
    · have:=Iz r (i+1) o h
      rw [List.length_cons];omega
theorem D3:∀ {l:List hK} {n m:Int},qa n l=some m→∀ c∈l,c.bx.length≤4
  | c::r,n,m,h,x,ab=>by
    rw [qa] at h;split at h
    · rename_i aE
      cases aC:ur n c.bx with
      | none=>rw [aC] at h;cases h
      | some k=>
        rw [aC] at h;rcases List.mem_cons.1 ab with rfl|ab
        · exact aE
        · exact D3 (l:=r) h x ab
    · cases h
theorem IA:∀ (g:List (List Int)) (i:Nat),p5 i g=true→um i g=true∧∀ l∈g,l.length≤3
  | [],_,_=>⟨rfl,fun l h=>by cases h⟩
  | x::r,i,h=>by
    rw [p5] at h;simp only [Bool.and_eq_true,decide_eq_true_eq] at h;obtain ⟨U,ae⟩:=IA r (i+1) h.2.2;refine ⟨by rw [um,h.2.1,U];rfl,fun l aI=>?_⟩;rcases List.mem_cons.1 aI with rfl|aI
    · exact h.1
    · exact ae l aI
theorem P2 {p:b9} (aE:p.dH.length≤10) {n:Int} (aw:qa 0 p.dH=some n) (ao:oa (jh p)=true):kc (cu p):=by
 unfold oa at ao;rw [Bool.and_eq_true] at ao;obtain ⟨g1,g2⟩:=IA _ _ ao.2;have aI:(jh p).length=p.dH.length:=List.length_map _;have U:=Iy p.dH 0 (D3 aw);refine ⟨by show (jh p).length≤60;omega,g2,g1,by show (hz 0 p.dH).length≤40;omega,fun o ag=>?_⟩;have:=Iz p.dH 0 o ag;show 3≤o∧o<3+((jh p).length:Int);omega
theorem IB {p:b9} (h:rD p=true):kc (cu p):=by
 unfold rD at h;simp only [Bool.and_eq_true,decide_eq_true_eq,beq_iff_eq] at h;exact P2 h.1 h.2.1 h.2.2.1
end Go.bY
namespace Go.bY
abbrev ez:=ax×Bool
def uw (x y:ez):Bool:=(x.2==y.2)&&ax.same x.1 y.1
theorem P3 (x y:ez):uw x y=true↔x=y:=by
 obtain ⟨f,b⟩:=x;obtain ⟨g,c⟩:=y;unfold uw;simp only [Bool.and_eq_true,beq_iff_eq,ax.HV,Prod.mk.injEq];exact And.comm
def pg (out:List ez) (x:ez):List ez:=if out.any (uw x) then out else out++[x]
def iF (a b:List ez):List ez:=b.foldl pg a
theorem D4:∀ (b a:List ez),(iF a b).length≤a.length+b.length
  | [],a=>Nat.le_refl _
  | x::r,a=>by
    have U:=D4 r (pg a x);have ae:(pg a x).length≤a.length+1:=by
      unfold pg;split
      · omega
      · simp
    have al:iF a (x::r)=iF (pg a x) r:=rfl;rw [al,List.length_cons];omega
theorem AZ {y:ez}:∀ (b a:List ez),y∈iF a b→y∈a∨y∈b
  | [],a,h => .inl h
  | x::r,a,h=>by
    rcases AZ r (pg a x) h with h|h
    · unfold pg at h
      split at h
      · exact .inl h
      · rcases List.mem_append.1 h with h|h
        · exact .inl h
        · exact .inr (by rw [List.mem_singleton] at h;subst h;exact List.mem_cons_self)
    · exact .inr (List.mem_cons_of_mem _ h)
mutual
def hh (ph:Bool):ax→List (List ez)
 | .mk o a p c n ks=>
  if o=1 then (if ph then [] else [[]])
  else if o=5 then hp (!ph) 0 ks
  else if (ax.mk o a p c n ks).du then [[(.mk o a p c n ks,ph)]]
  else if ph=decide (o=6) then hp ph 0 ks++hp ph 1 ks
  else (hp ph 0 ks).flatMap fun x=>(hp ph 1 ks).map (iF x)
def hp (ph:Bool):Nat→List ax→List (List ez)
 | _,[]=>[]
 | 0,x::_=>hh ph x
 | n+1,_::r=>hp ph n r
end
theorem rF (c:Bool):∀ (n:Nat) (l:List ax) (x:ax),l[n]? = some x→hp c n l=hh c x
 | 0,y::r,x,h=>by rw [hp];simp at h;rw [h]
 | n+1,y::r,x,h=>by rw [hp];exact rF c n r x gn
theorem IC (b:Bool) (f:ax):hh b f=if f.op=1 then (if b then [] else [[]])
  else if f.op=5 then hp (!b) 0 f.kids
  else if f.du then [[(f,b)]]
  else if b=decide (f.op=6) then hp b 0 f.kids++hp b 1 f.kids
  else (hp b 0 f.kids).flatMap fun x=>(hp b 1 f.kids).map (iF x):=by cases f;rw [hh];rfl
def ID (n:Nat) (l:List ez):Prop:=l.length≤n∧∀ x∈l,x.1.size≤n
theorem P4 (f:ax):1≤f.size:=by rw [ax.size_eq];omega
mutual
theorem D5:∀ (f:ax) (b:Bool),∀ l∈hh b f,ID f.size l
  | .mk o a p c n ks,b,l,h=>by
    rw [hh] at h;have ml:=(ax.mk o a p c n ks).size_eq;have P5:(ax.mk o a p c n ks).kids=ks:=rfl;rw [P5] at ml;split at h
    · split at h
      · cases h
      · rw [List.mem_singleton] at h;subst h;exact ⟨by simp,by simp⟩
    · split at h
      · have:=sy ks _ 0 l h
        exact ⟨by have:=this.1;omega,fun x ab=>by have:=this.2 x ab;omega⟩
      · split at h
        · rw [List.mem_singleton] at h;subst h
          exact ⟨P4 _,fun x ab=>by rw [List.mem_singleton] at ab;subst ab;exact Nat.le_refl _⟩
        · split at h
          · rcases List.mem_append.1 h with h|h
            · have:=sy ks _ 0 l h
              exact ⟨by have:=this.1;omega,fun x ab=>by have:=this.2 x ab;omega⟩
            · have:=sy ks _ 1 l h
              exact ⟨by have:=this.1;omega,fun x ab=>by have:=this.2 x ab;omega⟩
          · obtain ⟨x,ab,h⟩:=List.mem_flatMap.1 h
            obtain ⟨y,ay,rfl⟩:=List.mem_map.1 h;have U:=IE ks b x y ab ay;refine ⟨by have:=D4 y x;omega,fun z bE=>?_⟩;rcases AZ y x bE with bE|bE
            · have:=(sy ks _ 0 x ab).2 z bE;omega
            · have:=(sy ks _ 1 y ay).2 z bE;omega
theorem sy:∀ (ks:List ax) (b:Bool) (n:Nat),∀ l∈hp b n ks,ID (ax.jy ks) l
  | [],b,n,l,h=>by rw [hp] at h;cases h
  | x::r,b,0,l,h=>by
    rw [hp] at h;have:=D5 x b l h;rw [ax.jy];exact ⟨by have:=this.1;omega,fun y ay=>by have:=this.2 y ay;omega⟩
  | x::r,b,n+1,l,h=>by
    rw [hp] at h;have:=sy r b n l h;rw [ax.jy];exact ⟨by have:=this.1;omega,fun y ay=>by have:=this.2 y ay;omega⟩
theorem IE:∀ (ks:List ax) (b:Bool) (x y:List ez),x∈hp b 0 ks→y∈hp b 1 ks→x.length+y.length≤ax.jy ks
  | [],b,x,y,h,_=>by rw [hp] at h;cases h
  | k::r,b,x,y,h,fs=>by
    rw [rF b 0 (k::r) k C] at h;rw [show (1:Nat)=0+1 from rfl,hp] at fs;have U:=(D5 k b x h).1;have ae:=(sy r b 0 y fs).1;rw [ax.jy];omega
end
end Go.bY
namespace Go.bY
structure fD where
 low:Int
 high:Int
 e2:List Int
 gk:Nat
 no:Nat
 whole:Bool
 nH:Bool
 bx:List Int
def pj:fD:=⟨-1000000000,1000000000,[],0,0,false,false,[]⟩
def b1 (arg:Int) (path:List Int):List Int:=[arg,(path.length:Int),path.getD 0 0,path.getD 1 0]
def mm (s:Int) (l:List Int):List Int:=if l.contains s then l else (l++[s]).mergeSort (fun a b=>decide (a≤b))
def fD.need (k:fD) (neg:Bool):fD:={ k with nH:=k.nH || !neg }
def fD.slot (k:fD) (s:Int):fD:={ k with bx:=mm s k.bx }
def fD.ask (k:fD) (x:ez):fD:=
 if x.1.op=2 then (if x.2 then { k with no:=k.no|||2^x.1.cls.toNat } else { k with gk:=k.gk|||2^x.1.cls.toNat })
 else if x.1.op=3 then (if x.2 then { k with low:=max k.low x.1.n } else { k with high:=min k.high (x.1.n-1),whole:=true })
 else if x.2 then { k with e2:=k.e2++[x.1.n] }
 else { k with low:=max k.low x.1.n,high:=min k.high x.1.n,whole:=true }
abbrev ec:=List Int→fD
def ec.hi (σ:ec) (sp:List Int) (k:fD):ec:=fun q=>if q=sp then k else σ q
def lO (neg:Bool) (arg:Int) (path:List Int):Nat→ec→ec
 | 0,σ=>σ.hi (b1 arg []) ((σ (b1 arg [])).need neg)
 | j+1,σ=>
  let yi:=lO neg arg path j σ
  let here:=b1 arg (path.take j)
  let IF:=yi.hi here ((yi here).slot (path.getD j 0))
  let there:=b1 arg (path.take (j+1))
  IF.hi there ((IF there).need neg)
def addLit (σ:ec) (x:ez):ec:=
 let yi:=lO x.2 x.1.arg x.1.path x.1.path.length σ
 let here:=b1 x.1.arg x.1.path
 yi.hi here ((yi here).ask x)
def IG:ec:=fun _=>pj
def iT (l:List ez):ec:=l.foldl addLit IG
end Go.bY
namespace Go.bY
theorem P6 {s x:Int} {l:List Int}:x∈mm s l↔x=s∨x∈l:=by
 unfold mm;split
 ·rename_i h
  constructor
  ·exact .inr
  ·rintro (rfl|ae)
   ·simpa using h
   ·exact ae
 ·rw [List.mem_mergeSort,List.mem_append,List.mem_singleton]
  exact Or.comm
theorem P7 (k:fD) (x:ez):(k.ask x).bx=k.bx:=by
 unfold fD.ask
 repeat' split
 all_goals rfl
def pk (w:bT) (σ:ec):Prop:=∀ q,(2≤q.getD 1 0→(σ q).bx=[])∧∀ x∈(σ q).bx,0≤x∧x<(w.owner.length:Int)
theorem pk.hi {w:bT} {σ:ec} (h:pk w σ) {sp:List Int} {k:fD} (aD:(2≤sp.getD 1 0→k.bx=[])∧∀ x∈k.bx,0≤x∧x<(w.owner.length:Int)):pk w (σ.hi sp k):=by
 intro q;unfold ec.hi;by_cases e:q=sp
 ·rw [if_pos e,e];exact aD
 ·rw [if_neg e];exact h q
theorem IH {w:bT} {neg:Bool} {arg:Int} {path:List Int} (aN:path.length≤2) (aw:∀ s∈path,0≤s∧s<(w.owner.length:Int)):∀ (j:Nat),j≤path.length→∀ σ,pk w σ→pk w (lO neg arg path j σ)
  | 0,_,σ,h=>by
    rw [lO];exact h.hi (h _)
  | j+1,aS,σ,h=>by
    have U:=IH (neg:=neg) (arg:=arg) aN aw j ai σ h;rw [lO];generalize lO neg arg path j σ=D6 at U;have aG:j<path.length:=by omega
    have ae:pk w (D6.hi (b1 arg (path.take j)) ((D6 (b1 arg (path.take j))).slot (path.getD j 0))):=by
      refine U.hi ⟨fun ae=>?_,fun x ab=>?_⟩
      · exfalso
        have:(b1 arg (path.take j)).getD 1 0=((path.take j).length:Int):=rfl;rw [this,List.length_take] at ae;omega
      · have ab:x∈mm (path.getD j 0) (D6 (b1 arg (path.take j))).bx:=ab
        rcases P6.1 ab with rfl|ab
        · rw [List.getD_eq_getElem?_getD,List.getElem?_eq_getElem aG]
          exact aw _ (List.getElem_mem aG)
        · exact (U _).2 x ab
    exact ae.hi (ae _)
theorem P8 {w:bT} {f:ax} (h:iE w f=true) (aI:f.du=true):f.path.length≤2∧∀ s∈f.path,0≤s∧s<(w.owner.length:Int):=by
 simp only [iE,aI,if_true,Bool.and_eq_true,decide_eq_true_eq,List.all_eq_true] at h;exact ⟨h.2.2.2.2.2.1,fun s aw=>by have:=h.2.2.2.2.2.2.1 s aw;omega⟩
theorem P9 {w:bT} {x:ez} (aC:iE w x.1=true) (aI:x.1.du=true) {σ:ec} (h:pk w σ):pk w (addLit σ x):=by
 obtain ⟨U,ae⟩:=P8 aC aI;have al:=IH (neg:=x.2) (arg:=x.1.arg) U ae x.1.path.length (Nat.le_refl _) σ h;unfold addLit;simp only;refine al.hi ?_;rw [P7];exact al _
theorem P' {w:bT} {l:List ez} (h:∀ x∈l,iE w x.1=true∧x.1.du=true):pk w (iT l):=by
 unfold iT;have key:∀ (l:List ez) (σ:ec),(∀ x∈l,iE w x.1=true∧x.1.du=true)→pk w σ→pk w (l.foldl addLit σ):=by
  intro l
  induction l with
  | nil=>exact fun σ _ h=>h
  | cons x r a'=>
   intro σ ab Qa;exact a' _ (fun y ay=>ab y (List.mem_cons_of_mem _ ay)) (P9 (ab x List.mem_cons_self).1 (ab x List.mem_cons_self).2 Qa)
 exact key l IG h (fun q=>⟨fun _=>rfl,fun x ab=>by cases ab⟩)
end Go.bY
namespace Go.Proofs.YtnafpeohfbglmaaGreat
open Go.bj Go.bY
def kd {α:Type} (e:α→α→Bool):List α→List α→Bool
 | [],[]=>true
 | x::r,y::t=>e x y&&kd e r t
 | _,_=>false
theorem D7 {α:Type} (e:α→α→Bool):∀ (a b:List α),a.length≠b.length→kd e a b=false
 | [],[],h=>absurd C h
 | [],_::_,_=>rfl
 | _::_,[],_=>rfl
 | x::r,y::t,h=>by rw [kd,D7 e r t gn,Bool.and_false]
theorem A0 (x:bC):de x = .agg (fj x):=rfl
theorem D8 (fv:ad) (e:ax→ax→Bool) (a b:List ax) (aI:a.length<bt) (vP:b.length<bt) (bs:∀ x∈a,∀ y∈b,dM Tryz.prog fv [ax.cj x,ax.cj y] (.bool (e x y))) :
  a7 Tryz.prog 94 [.aA 6 (a.map ax.cj) .bd,.aA 6 (b.map ax.cj) .bd,fv] (.bool (kd e a b)):=by
 have an:=bQ;refine a7.bp ak call94 Tryz.func94 C C fun s I=>?_
 refine cL ?_;refine af.cond C (fun h=>?_) (fun h=>?_)
 ·have cB:a.length≠b.length:=by simp at h;omega
  rw [D7 e a b cB];refine j' ?_;exact bA I
 ·have ev:a.length=b.length:=by simp at h;omega
  refine lH ?_;refine af.cT [0,1,2,15,16] C I (σ:=Nat) (fun j=>[(17,.int .i64 (j:Int))]) (fun _=>[]) (fun j=>j≤a.length∧kd e a b=kd e (a.drop j) (b.drop j)) (fun j=>a.length-j) 0 ⟨Nat.zero_le _,rfl⟩ (c3 C) bM ?_;rintro j ⟨aS,aH⟩ I;refine cL ?_;refine af.cond C (fun aG=>?_) (fun bk=>?_);rotate_left;have bk:j=a.length:=by
   have:a.length≤j:=by simpa using bk
   omega
  ·rw [fC ai,fC ai] at aH
   rw [aH];refine fJ ?_;exact bA I
  have aG:j<a.length:=by simpa using aG
  obtain ⟨x,ab,ch⟩:=cD (f:=ax.cj) aG;obtain ⟨y,ay,ey⟩:=cD (f:=ax.cj) (by omega:j<b.length);have aE:=bs x (List.mem_of_getElem? ab) y (List.mem_of_getElem? ay);rw [ax.cO] at ch;rw [ax.cO] at ey;rw [ax.cO,ax.cO] at aE;rw [drop_cons ab,drop_cons ay,kd] at aH;refine fA ?_;refine aa.dE ak I C C C C C C C (fun ix I=>?_);refine AB I ?_;intro I;refine aa.dE ak I C C C C C C C (fun dk I=>?_);refine AB I ?_;intro I;refine aa.kx C C C C C C aE ?_;cases av:e x y with
  | false=>
   rw [aH,av,Bool.false_and];refine cC ?_;exact bA I
  | true=>
   rw [av,Bool.true_and] at aH;refine bP ?_;refine bX.mk (j+1) I ⟨aG,aH⟩ c7 bM xT
theorem II (fv:ad) (e:bC→bC→Bool) (a b:List bC) (aI:a.length<bt) (vP:b.length<bt) (bs:∀ x∈a,∀ y∈b,dM Tryz.prog fv [de x,de y] (.bool (e x y))) :
  a7 Tryz.prog 56 [.aA 4 (a.map de) .bd,.aA 4 (b.map de) .bd,fv] (.bool (kd e a b)):=by
 have an:=bQ;refine a7.bp ak call56 Tryz.func56 C C fun s I=>?_
 refine cL ?_;refine af.cond C (fun h=>?_) (fun h=>?_)
 ·have cB:a.length≠b.length:=by simp at h;omega
  rw [D7 e a b cB];refine j' ?_;exact bA I
 ·have ev:a.length=b.length:=by simp at h;omega
  refine lH ?_;refine af.cT [0,1,2,15,16] C I (σ:=Nat) (fun j=>[(17,.int .i64 (j:Int))]) (fun _=>[]) (fun j=>j≤a.length∧kd e a b=kd e (a.drop j) (b.drop j)) (fun j=>a.length-j) 0 ⟨Nat.zero_le _,rfl⟩ (c3 C) bM ?_;rintro j ⟨aS,aH⟩ I;refine cL ?_;refine af.cond C (fun aG=>?_) (fun bk=>?_);rotate_left;have bk:j=a.length:=by
   have:a.length≤j:=by simpa using bk
   omega
  ·rw [fC ai,fC ai] at aH
   rw [aH];refine fJ ?_;exact bA I
  have aG:j<a.length:=by simpa using aG
  obtain ⟨x,ab,ch⟩:=cD (f:=de) aG;obtain ⟨y,ay,ey⟩:=cD (f:=de) (by omega:j<b.length);have aE:=bs x (List.mem_of_getElem? ab) y (List.mem_of_getElem? ay);rw [A0] at ch;rw [A0] at ey;rw [A0,A0] at aE;rw [drop_cons ab,drop_cons ay,kd] at aH;refine fA ?_;refine aa.dE ak I C C C C C C C (fun ix I=>?_);refine AB I ?_;intro I;refine aa.dE ak I C C C C C C C (fun dk I=>?_);refine AB I ?_;intro I;refine aa.kx C C C C C C aE ?_;cases av:e x y with
  | false=>
   rw [aH,av,Bool.false_and];refine cC ?_;exact bA I
  | true=>
   rw [av,Bool.true_and] at aH;refine bP ?_;refine bX.mk (j+1) I ⟨aG,aH⟩ c7 bM xT
theorem yj {α:Type} (q:α→Bool) (l:List α):(!l.any fun x => !q x)=l.all q:=by
 induction l with
 | nil=>rfl
 | cons x r a'=>rw [List.any_cons,List.all_cons,Bool.not_or,Bool.not_not,a']
theorem Qb (fv:ad) (q:Bool) (x:ax) (h:dM Tryz.prog fv [ax.cj x] (.bool q)):dM Tryz.prog (.func 234 [] [.bq [fv] 0]) [ax.cj x] (.bool (!q)):=by
 refine dM.eP (first:=[]) (cap:=[.bq [fv] 0]) ?_;refine a7.bp ak call234 Tryz.func234 C C fun s I=>?_
 rw [ax.cO] at h ⊢;refine dF ?_;refine aa.kx C C C C C C h ?_;refine dO ?_;exact bA I
theorem Qc (f:FuncId) (hA gr:List ad) (q:ax→Bool) (xs:List ax) (aI:xs.length<bt) (h:∀ x∈xs,dM Tryz.prog (.func f hA gr) [ax.cj x] (.bool (q x))) :
  a7 Tryz.prog 200 [.aA 6 (xs.map ax.cj) .bd,.func f hA gr] (.bool (xs.all q)):=by
 rw [← yj];refine a7.bp ak call200 Tryz.func200 C C fun s I=>?_
 have aE:=PA (.func 234 [] [.bq [.func f hA gr] 0]) (fun x => !q x) xs aI (fun x ab=>Qb (.func f hA gr) (q x) x (h x ab));refine dF ?_;refine aa.eB C C C C C aE ?_;refine dO ?_;exact bA I
end Go.Proofs.YtnafpeohfbglmaaGreat
namespace Go.Proofs.YtnafpeohfbglmaaGreat
open Go.bj Go.bY
def oh (x:ax×Bool):List ad:=x.1.cells++[.bool x.2]
def hj (x:ax×Bool):ad := .agg (oh x)
theorem Qd (l:List hK):∀ y∈l.map jf,jv 3 y=true:=by
 intro y ay;obtain ⟨z,-,rfl⟩:=List.mem_map.1 ay;first|rfl|(rw [jf];rfl)
theorem IJ (l:List Int):∀ y∈l.map bg,jv 1 y=true:=by
 intro y ay;obtain ⟨z,-,rfl⟩:=List.mem_map.1 ay;first|rfl|(rw [bg];rfl)
theorem yk (l:List Int) (own:bU) (aI:l.length<bt):a7 Tryz.prog 47 [.aA 1 (l.map bg) own] (.aA 1 (l.map bg) .bd):=by
 have an:=bQ;refine a7.bp ak call47 Tryz.func47 C C fun s I=>?_
 refine dF ?_;refine aa.op C C C (aU.AS ak C C C C (X:=fun _ _=>False)) ?_ (fun _ _ h=>False.elim h);rintro r ah ⟨rfl,⟨rfl,aC⟩|rfl⟩
 ·refine cC ?_
  refine Fin.dT I C ?_;rw [aC];exact a8.empty
 ·refine bP ?_
  refine aa.p0 ak C C C C C C C eQ C C C (.inl C) (.inr C) C (IJ _) (by simp only [List.length_nil,Nat.zero_add,List.length_map];show _*8≤_;omega) AG (.inr C) ?_;refine dO ?_;exact bA I
theorem Qe (l:List (ax×Bool)):∀ y∈l.map hj,jv 7 y=true:=by
 intro y ay;obtain ⟨z,-,rfl⟩:=List.mem_map.1 ay;first|rfl|(rw [hj];rfl)
theorem Qf (xs:List ad) (own:bU):a7 Tryz.prog 193 [.aA 2 xs own] (.aA 2 xs .clip):=by
 refine a7.bp ak call193 Tryz.func193 C C fun s I=>?_
 refine dF ?_;refine aa.slice ak 0 xs.length C C C C C C C C (.inr C) (.inl ⟨rfl,rfl⟩) (.inr ⟨_,_,rfl,rfl⟩) (.inr ⟨_,_,rfl,rfl,rfl⟩) ai (Nat.le_refl _) ?_;rw [List.take_length,List.drop_zero];refine dO ?_;exact bA I
theorem D9 (xs:List ad) (own:bU):a7 Tryz.prog 194 [.aA 1 xs own] (.aA 1 xs .clip):=by
 refine a7.bp ak call194 Tryz.func194 C C fun s I=>?_
 refine dF ?_;refine aa.slice ak 0 xs.length C C C C C C C C (.inr C) (.inl ⟨rfl,rfl⟩) (.inr ⟨_,_,rfl,rfl⟩) (.inr ⟨_,_,rfl,rfl,rfl⟩) ai (Nat.le_refl _) ?_;rw [List.take_length,List.drop_zero];refine dO ?_;exact bA I
theorem Qg (xs:List ad) (own:bU):a7 Tryz.prog 262 [.aA 1 xs own] (.aA 1 xs .clip):=by
 refine a7.bp ak call262 Tryz.func262 C C fun s I=>?_
 refine dF ?_;refine aa.slice ak 0 xs.length C C C C C C C C (.inr C) (.inl ⟨rfl,rfl⟩) (.inr ⟨_,_,rfl,rfl⟩) (.inr ⟨_,_,rfl,rfl,rfl⟩) ai (Nat.le_refl _) ?_;rw [List.take_length,List.drop_zero];refine dO ?_;exact bA I
theorem Qh (fv:ad) (q:Bool) (x:Int) (h:dM Tryz.prog fv [bg x] (.bool q)):dM Tryz.prog (.func 233 [] [.bq [fv] 0]) [bg x] (.bool (!q)):=by
 refine dM.eP (first:=[]) (cap:=[.bq [fv] 0]) ?_;refine a7.bp ak call233 Tryz.func233 C C fun s I=>?_
 rw [bg] at h ⊢;refine dF ?_;refine aa.kx C C C C C C h ?_;refine dO ?_;exact bA I
theorem IK (f:FuncId) (hA gr:List ad) (q:Int→Bool) (xs:List Int) (aI:xs.length<bt) (h:∀ x∈xs,dM Tryz.prog (.func f hA gr) [bg x] (.bool (q x))) :
  a7 Tryz.prog 198 [.aA 1 (xs.map bg) .bd,.func f hA gr] (.bool (xs.all q)):=by
 rw [← yj];refine a7.bp ak call198 Tryz.func198 C C fun s I=>?_
 have aE:=PD (.func 233 [] [.bq [.func f hA gr] 0]) (fun x => !q x) xs aI (fun x ab=>Qh (.func f hA gr) (q x) x (h x ab));refine dF ?_;refine aa.eB C C C C C aE ?_;refine dO ?_;exact bA I
theorem Qi (fv:ad) (q:Bool) (x:(Int×Int)) (h:dM Tryz.prog fv [fr x] (.bool q)):dM Tryz.prog (.func 208 [] [.bq [fv] 0]) [fr x] (.bool (!q)):=by
 refine dM.eP (first:=[]) (cap:=[.bq [fv] 0]) ?_;refine a7.bp ak call208 Tryz.func208 C C fun s I=>?_
 rw [fr] at h ⊢;refine dF ?_;refine aa.kx C C C C C C h ?_;refine dO ?_;exact bA I
theorem IL (f:FuncId) (hA gr:List ad) (q:(Int×Int)→Bool) (xs:List (Int×Int)) (aI:xs.length<bt) (h:∀ x∈xs,dM Tryz.prog (.func f hA gr) [fr x] (.bool (q x))) :
  a7 Tryz.prog 168 [.aA 2 (xs.map fr) .bd,.func f hA gr] (.bool (xs.all q)):=by
 rw [← yj];refine a7.bp ak call168 Tryz.func168 C C fun s I=>?_
 have aE:=PG (.func 208 [] [.bq [.func f hA gr] 0]) (fun x => !q x) xs aI (fun x ab=>Qi (.func f hA gr) (q x) x (h x ab));refine dF ?_;refine aa.eB C C C C C aE ?_;refine dO ?_;exact bA I
theorem Qj (fv:ad) (q:Bool) (x:eW) (h:dM Tryz.prog fv [hV x] (.bool q)):dM Tryz.prog (.func 240 [] [.bq [fv] 0]) [hV x] (.bool (!q)):=by
 refine dM.eP (first:=[]) (cap:=[.bq [fv] 0]) ?_;refine a7.bp ak call240 Tryz.func240 C C fun s I=>?_
 rw [hV] at h ⊢;refine dF ?_;refine aa.kx C C C C C C h ?_;refine dO ?_;exact bA I
theorem Qk (f:FuncId) (hA gr:List ad) (q:eW→Bool) (xs:List eW) (aI:xs.length<bt) (h:∀ x∈xs,dM Tryz.prog (.func f hA gr) [hV x] (.bool (q x))) :
  a7 Tryz.prog 203 [.aA 2 (xs.map hV) .bd,.func f hA gr] (.bool (xs.all q)):=by
 rw [← yj];refine a7.bp ak call203 Tryz.func203 C C fun s I=>?_
 have aE:=PJ (.func 240 [] [.bq [.func f hA gr] 0]) (fun x => !q x) xs aI (fun x ab=>Qj (.func f hA gr) (q x) x (h x ab));refine dF ?_;refine aa.eB C C C C C aE ?_;refine dO ?_;exact bA I
end Go.Proofs.YtnafpeohfbglmaaGreat
namespace Go.Proofs.YtnafpeohfbglmaaGreat
open Go.bj Go.bY
theorem D' (f:ax):a7 Tryz.prog 171 [f.cj] (.bool f.du):=by
 have an:=bQ;refine a7.bp ak call171 Tryz.func171 C C fun s I=>?_
 rw [ax.cO]
 repeat' (first|(with_reducible first|apply af.seq|apply cf|apply af.ret)|refine dK C ?_|refine af.cK ?_|refine aa.nil ?_|refine cG C ?_|refine aa.skip C C C ?_|(fail_if_success refine aa.same true C ?_);(fail_if_success refine aa.same false C ?_);refine aa.iB C C (fun h=>?_) (fun h=>?_))
 all_goals exact Fin.dT I C (a8.of_eq (by first|(simp_all [ax.du];done)|(simp_all [ax.du]<;>omega)))
theorem Ql (op:Int):a7 Tryz.prog 235 [.int .i64 op] (.int .i64 (vQ op)):=by
 have an:=bQ;refine a7.bp ak call235 Tryz.func235 C C fun s I=>?_
 repeat' (first|(with_reducible first|apply af.seq|apply cf|apply hb|apply ga|apply ih|apply af.ret|apply af.skip|apply af.block)|refine dK C ?_|refine af.cond C (fun h=>?_) (fun h=>?_))
 all_goals exact Fin.dT I C (a8.of_eq (by first|(simp_all [vQ];done)|(simp_all [vQ]<;>omega)))
theorem IM (f g:ax) (ba:f.path.length<bt) (ao:g.path.length<bt):a7 Tryz.prog 104 [f.cj,g.cj] (.bool (decide (f.op=g.op)&&(decide (f.arg=g.arg)&&(decide (f.cls=g.cls)&&(decide (f.n=g.n)&&f.path==g.path))))):=by
 have an:=bQ;refine a7.bp ak call104 Tryz.func104 C C fun s I=>?_
 rw [ax.cO,ax.cO];have U:=sr f.path g.path ba ao;unfold bI bg at U
 repeat' (first|(with_reducible first|apply af.seq|apply cf|apply af.ret)|refine dK C ?_|refine af.cK ?_|refine aa.nil ?_|refine cG C ?_|refine aa.skip C C C ?_|refine aa.eB C C C C C cq ?_|(fail_if_success refine aa.same true C ?_);(fail_if_success refine aa.same false C ?_);refine aa.iB C C (fun h=>?_) (fun h=>?_))
 all_goals exact Fin.dT I C (a8.of_eq t')
theorem Qm {m c n:Nat} (h:m<n):m >>> c<n:=by
 rw [Nat.shiftRight_eq_div_pow];exact Nat.lt_of_le_of_lt (Nat.div_le_self _ _) h
theorem Qn (m c:Nat):decide ((((m >>> c) &&& 1:Nat):Int)=1)=m.testBit c:=by
 rw [Nat.testBit,Nat.and_comm];have h:1 &&& (m >>> c)=(m >>> c) % 2:=by rw [Nat.and_comm];exact Nat.and_one_is_mod _
 rw [h];rcases Nat.mod_two_eq_zero_or_one (m >>> c) with e|e<;>rw [e]<;>rfl
theorem IN {c:Nat} (h:c<64):2^c<2^64:=Nat.pow_lt_pow_right ai h
theorem wa (m c:Nat) (hm:m<2^64) (aE:c<64):a7 Tryz.prog 173 [.int .u64 (m:Int),.int .i64 (c:Int)] (.bool (m.testBit c)):=by
 have an:=bQ;refine a7.bp ak call173 Tryz.func173 C C fun s I=>?_
 refine dF ?_;refine aa.shr ((m >>> c:Nat):Int) C C C C C C ai (so aE) ?_;refine aa.bits (((m >>> c) &&& 1:Nat):Int) C C C C C C (sn (Qm hm) dd) ?_;refine dO ?_;refine Fin.dT I C (a8.of_eq ?_);rw [← Qn];rfl
theorem yl (m c:Nat) (hm:m<2^64) (aE:c<64):a7 Tryz.prog 197 [.int .u64 (m:Int),.int .i64 (c:Int)] (.int .u64 ((m|||2^c:Nat):Int)):=by
 have an:=bQ;refine a7.bp ak call197 Tryz.func197 C C fun s I=>?_
 refine dF ?_;refine aa.shl ((2^c:Nat):Int) C C C C C C ai (AL aE) ?_;refine aa.bits ((m|||2^c:Nat):Int) C C C C C C (uf hm (IN aE)) ?_;refine dO ?_;exact bA I
def oi (w:bT) (up:List Nat):List ad:=hf w++up.map fun n => .int .u64 (n:Int)
def eC (w:bT) (up:List Nat):ad := .bq (oi w up) 0
theorem IP (w:bT) (up:List Nat) (c:Int) (hw:w.bK.length≤60):a7 Tryz.prog 199 [eC w up,.int .i64 c] (.bool (decide (c≥3)&&decide (c<3+(w.bK.length:Int)))):=by
 have an:=bQ;refine a7.bp ak call199 Tryz.func199 C C fun s I=>?_
 unfold eC oi hf gb bI;have dU:IntKind.wrap .i64 (3+((w.bK.map bI).length:Int))=3+(w.bK.length:Int):=by rw [List.length_map,e0 ai ai]
 unfold bI at dU
 repeat' (first|(with_reducible first|apply af.seq|apply cf|apply af.ret)|refine dK C ?_|refine af.cK ?_|refine aa.nil ?_|refine cG C ?_|refine aa.skip C C C ?_|(fail_if_success refine aa.same true C ?_);(fail_if_success refine aa.same false C ?_);refine aa.iB C C (fun h=>?_) (fun h=>?_))
 all_goals exact Fin.dT I C (a8.of_eq t')
theorem Qo (w:bT) (up:List Nat) (c:Int) (hw:w.bK.length≤60):a7 Tryz.prog 237 [eC w up,.int .i64 c] (.bool (decide (c≥0)&&decide (c<3+(w.bK.length:Int)))):=by
 have an:=bQ;refine a7.bp ak call237 Tryz.func237 C C fun s I=>?_
 unfold eC oi hf gb bI;have dU:IntKind.wrap .i64 (3+((w.bK.map bI).length:Int))=3+(w.bK.length:Int):=by rw [List.length_map,e0 ai ai]
 unfold bI at dU
 repeat' (first|(with_reducible first|apply af.seq|apply cf|apply af.ret)|refine dK C ?_|refine af.cK ?_|refine aa.nil ?_|refine cG C ?_|refine aa.skip C C C ?_|(fail_if_success refine aa.same true C ?_);(fail_if_success refine aa.same false C ?_);refine aa.iB C C (fun h=>?_) (fun h=>?_))
 all_goals exact Fin.dT I C (a8.of_eq t')
theorem Qp (w:bT) (up:List Nat) (c:Int):a7 Tryz.prog 263 [eC w up,.int .i64 c] (.bool (decide (c≥0)&&decide (c<(w.owner.length:Int)))):=by
 have an:=bQ;refine a7.bp ak call263 Tryz.func263 C C fun s I=>?_
 unfold eC oi hf gb bI
 repeat' (first|(with_reducible first|apply af.seq|apply cf|apply af.ret)|refine dK C ?_|refine af.cK ?_|refine aa.nil ?_|refine cG C ?_|refine aa.skip C C C ?_|(fail_if_success refine aa.same true C ?_);(fail_if_success refine aa.same false C ?_);refine aa.iB C C (fun h=>?_) (fun h=>?_))
 all_goals exact Fin.dT I C (a8.of_eq t')
theorem Qq (w:bT) (up:List Nat) (c:Int):dM Tryz.prog (.func 263 [eC w up] []) [bg c] (.bool (decide (c≥0)&&decide (c<(w.owner.length:Int)))):=
 dM.eP (first:=[eC w up]) (cap:=[]) (Qp w up c)
theorem Qr (w:bT) (up:List Nat) (c:Int) (hw:w.bK.length≤60):dM Tryz.prog (.func 199 [eC w up] []) [bg c] (.bool (decide (c≥3)&&decide (c<3+(w.bK.length:Int)))):=
 dM.eP (first:=[eC w up]) (cap:=[]) (IP w up c hw)
theorem Qs (w:bT) (up:List Nat) (l:List Int) (aI:l.length<bt):a7 Tryz.prog 236 [eC w up,bI l] (.bool (decide (l.length≤2)&&l.all fun c=>decide (c≥0)&&decide (c<(w.owner.length:Int)))):=by
 have an:=bQ;refine a7.bp ak call236 Tryz.func236 C C fun s I=>?_
 have U:=IK 263 [eC w up] [] _ l aI (fun x _=>Qq w up x);unfold bI;unfold eC at U ⊢
 repeat' (first|(with_reducible first|apply af.seq|apply cf|apply af.ret)|refine dK C ?_|refine af.cK ?_|refine aa.nil ?_|refine cG C ?_|refine aa.skip C C C ?_|refine aa.eB C C C C C cq ?_|(fail_if_success refine aa.same true C ?_);(fail_if_success refine aa.same false C ?_);refine aa.iB C C (fun h=>?_) (fun h=>?_))
 all_goals exact Fin.dT I C (a8.of_eq t')
theorem Qt (b:Bool):a7 Tryz.prog 261 [.bool b] (.int .i64 (if b then 0 else 2)):=by
 have an:=bQ;refine a7.bp ak call261 Tryz.func261 C C fun s I=>?_
 repeat' (first|(with_reducible first|apply af.seq|apply cf|apply hb|apply af.ret|apply af.skip)|refine dK C ?_|refine af.cond C (fun h=>?_) (fun h=>?_))
 all_goals exact Fin.dT I C (a8.of_eq t')
end Go.Proofs.YtnafpeohfbglmaaGreat
