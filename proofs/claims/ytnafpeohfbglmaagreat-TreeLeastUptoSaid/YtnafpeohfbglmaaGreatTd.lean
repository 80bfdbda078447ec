import Derived.Test.YtnafpeohfbglmaaGreatTc
import Derived.Shelf.Sort.Plain
import Derived.KernelRfl
import Derived.WalkKit
import Derived.Defers
import Derived.Recover
import Derived.Laws.MakeOwn
import Derived.Laws.CopyRow
set_option linter.unusedVariables false
set_option linter.unusedSimpArgs false
set_option maxRecDepth 100000
set_option maxHeartbeats 4000000
open Array renaming ext_getElem?→aw5,getElem?_eq_some_iff→t8,getElem?_modify→ao',getElem?_toList→au7,length_toList→ae5,replicate→al4
open BitVec renaming ofInt→aj9,ofNat→aA2,toNat_and→ax6,toNat_ofNat→al2,toNat_or→aB5
open Bool renaming and_eq_true→f4,eq_false_iff→af3,false_and→f6,not_false→aj6,not_true→aj',true_and→f5
open Int renaming le_refl→al1,toNat_natCast→i9
open Go.IntKind renaming bits→am6,signed→ay7,wrap→ac'
open List renaming append_assoc→ag',append_nil→d9,cons_append→ab',cons_beq_cons→aw2,drop_zero→an2,findIdx?_eq_none_iff→ai0,findIdx?_eq_some_iff_getElem→ag9,getD_eq_getElem?_getD→d5,getElem?_append_left→af9,getElem?_append_right→ae',getElem?_drop→ao8,getElem?_eq_getElem→d8,getElem?_eq_some_iff→t7,getElem?_map→ae7,getElem?_of_mem→af',getElem?_take→ai2,getElem_mem→aj4,isEmpty→aq3,length_append→f9,length_cons→i5,length_drop→ai8,length_filter_le→aj8,length_map→f8,length_replicate→ag2,length_singleton→ag8,length_take_le'→ak',length_take→ae9,map_append→ae1,map_cons→ae0,map_nil→ag7,map_take→as8,map_toArray→ar4,mem_append→ae2,mem_cons_of_mem→i0,mem_cons_self→i6,mem_cons→ae8,mem_filter→ag3,mem_map→af8,mem_of_getElem?→d6,mem_replicate→at8,mem_singleton→t6,nil_append→f0,replicate_succ'→ap3,replicate→H1,set_append_right→al6,size_toArray→an4,take_append_drop→ah',take_append_of_le_length→ah3,take_length→af1,take_of_length_le→ah1
open Nat renaming and_le_left→av2,beq→af2,blt→z2,eq_of_beq_eq_true→ad',eq_of_testBit_eq→an',le_add_right→aA7,le_refl→g7,le_trans→an0,lt_of_le_of_lt→ak3,lt_of_lt_of_le→aj7,lt_succ_iff_lt_or_eq→ah7,min_eq_left→am7,mod_eq_of_lt→am2,mul_le_mul_right→am9,mul_one→aj3,not_lt_zero→an6,or_lt_two_pow→aj0,pow_lt_pow_right→ai6,sub_zero→au',testBit_and→am0,testBit_two_pow_sub_one→ai1,zero_add→af6,zero_le→g9
open Option renaming map_none→at1,map_some→al'
open Go.Result renaming andThen_ok→i7
open Go.Sem renaming runT_eq→au5,run_bind→aa',run_pure→ae3
open Go.Proofs.Tryz renaming prog→d0
namespace Go.Proofs.YtnafpeohfbglmaaGreat
theorem Gm {p:Prop} (h:p:=by rw [bo];exact (by simp only [List.length_map,List.length_nil];exact ba)):p:=h
theorem yr {p:Prop} (h:p:=by repeat (first|exact trivial|refine ⟨⟨_,rfl,aT⟩,?_⟩|refine ⟨⟨_,rfl,aZ.of_eq (by (first|rw [kF (by omega)]|(rw [List.map_append];rfl)))⟩,?_⟩)):p:=h
theorem Aq {p:Prop} (h:p:=by repeat (first|exact trivial|refine ⟨⟨_,rfl,aT⟩,?_⟩|refine ⟨⟨_,rfl,aZ.of_eq (by (rw [ev (by omega) (by omega)];push_cast;rfl))⟩,?_⟩)):p:=h
theorem Dj {p:Prop} (h:p:=by repeat (first|exact trivial|refine ⟨⟨_,rfl,aT⟩,?_⟩|refine ⟨⟨_,rfl,aZ.of_eq (by (rw [ev (by omega) (by omega)];rfl))⟩,?_⟩)):p:=h
theorem ow {p:Prop} (h:p:=by repeat (first|exact trivial|refine ⟨⟨_,rfl,aT⟩,?_⟩|refine ⟨⟨_,rfl,aZ.of_eq (by (first|rw [kF (by omega)]|rw [au]))⟩,?_⟩)):p:=h
theorem Ar {p:Prop} (h:p:=by repeat (first|exact trivial|refine ⟨⟨_,rfl,aT⟩,?_⟩|refine ⟨⟨_,rfl,aZ.of_eq (by (rw [ev (by omega) (by omega)]))⟩,?_⟩)):p:=h
theorem As {p:Prop} (h:p:=by repeat (first|exact trivial|refine ⟨⟨_,rfl,aT⟩,?_⟩|refine ⟨⟨_,rfl,aZ.of_eq (by simp)⟩,?_⟩)):p:=h
theorem Gn {p:Prop} (h:p:=by show aJ _ [(_,.row _ _ (xs (j+1)).length)] _;rw [db];exact aJ.cons bp.here .nil):p:=h
theorem Gp {p:Prop} (h:p:=by rw [ev (by omega) (by omega)];omega):p:=h
theorem Gq {p:Prop} (h:p:=by show cur.length-(i+1)<cur.length-i;omega):p:=h
theorem Gr {p:Prop} (h:p:=by show 2+g.length-(j+1)<2+g.length-j;omega):p:=h
theorem sb {p:Prop} (h:p:=by show xs.length-(j+1)<xs.length-j;omega):p:=h
theorem uU {p:Prop} (h:p:=by show g.length-(j+1)<g.length-j;omega):p:=h
theorem Au {p:Prop} (h:p:=by show a.length-(j+1)<a.length-j;omega):p:=h
theorem uV {p:Prop} (h:p:=by rw [List.length_replicate];omega):p:=h
theorem p1 {p:Prop} (h:p:=by show (_+1)*24≤_;omega):p:=h
theorem lC {p:Prop} (h:p:=by show (_+1)*8≤_;omega):p:=h
theorem h4 {p:Prop} (h:p:=by intro b h;cases h):p:=h
theorem tC {p:Prop} (h:p:=by simpa using aa):p:=h
theorem eH {p:Prop} (h:p:=by intro k;simp):p:=h
theorem ir {p:Prop} (h:p:=by simp<;>omega):p:=h
theorem dV {p:Prop} (h:p:=by decide):p:=h
def ee (b n cap:Nat):ah := .hE (.slice (some ⟨b,0,none⟩) n cap)
theorem bH.Av {w:World} {p:bU}:∀ vs:List Value,bH w p vs (vs.map fun _ => .any)
 | [] => .nil
 | v::vs => .cons v .any vs _ (.any v) (bH.Av vs)
theorem Aw {v:Value} (h:v.oneCell'=true):v.cells = #[v]:=by
 cases v<;>first|rfl|(simp [Value.oneCell'] at h;done)
theorem tD:∀ {vs:List Value},(∀ v∈vs,v.oneCell'=true)→flat vs=vs
  | [],_=>rfl
  | v::vs,h=>by
    have aa:=tD (vs:=vs) fun u hu=>h u (i0 _ hu)
    unfold flat at aa ⊢;rw [List.flatMap_cons,aa,Aw (h v i6)];rfl
section
variable {P:Program} {Γ:cw} {N:Nat} {ops:Array Oper} {Q:b3→Env→ao→Prop} {env:Env} {s:ao} {l:List Oper} {o:Oper} {d:Nat} {L R:bb}
def Grown (s:ao) (R:bb) (e:TypeId) (n:Nat) (xs:List ah) (r:ah) (ak:ao):Prop:=
 ∃ aY cb cs',r=ee aY n cb∧ak=aU s ((.own aY,.box e cs')::R)∧Ok s ((.own aY,.box e cs')::R)∧cs'.length=cb∧n≤cb∧cs'.take n=xs
theorem K' (aR:bR P Γ) {w:World} {p:bU} {S:ao} (ca:dq w p S) {t bP e ty:TypeId} {it cJ aH:bQ} {bZ:Nat} {olds:List Value} {xs:List ah} {v:ah} {dD:bV} {base:Option Addr} {n cap:Nat} {q1:Value}
  (aM:Γ.get? t=some it) (bw:it.bL = .aG e) (c7:Γ.get? bP=some cJ) (dH:∀ k,cJ.bL ≠ .int k) (bO:Γ.get? e=some aH) (aa:aH.size=1) (ed:af2 aH.zero.cells.size aH.size=true)
  (aE:bH w p olds xs) (aB:n=xs.length) (tm:(Builtin.firstCells 1 n (.slice base n cap)).run P w.drew = .ok olds.toArray w.drew) (ax:Rel w p q1 (.aG bZ [v] dD)) (dg:bZ=1) (dY:fb v=true)
  (az:cap<n+1) (an:(n+1)*aH.bytes≤140737488355328) (eA:n+1≤9223372036854775807) :
  ∃ aY cb cs' w',(Builtin.append_ #[t,bP] ty #[.slice base n cap,q1]).run P w = .ok (.slice (some ⟨aY,0,none⟩) (n+1) cb) w'∧S aY=none∧de w p w' p∧Kept S (S.set aY (.box e cs')) w p w' p∧dq w' p (S.set aY (.box e cs')) ∧
   cs'.length=cb∧n+1≤cb∧cs'.take (n+1)=xs++[v]:=by
 obtain ⟨info,d,g1,g2,g3,-⟩:=aR.parts aM;obtain ⟨m0,c4,ea,dr,dG,-⟩:=aR.parts c7;obtain ⟨jT,kB,cu,c2,fg,eG,jU,jq⟩:=aR.parts bO;have ay:d = .slice e:=by rw [bw] at g3;cases d<;>simp [en] at g3;rw [g3]
 subst ay;have cg:∀ k,c4 ≠ .int k:=fun k e'=>by subst e';exact dH k dG.symm
 obtain ⟨us,im,pR,jV,kg,tp,tq,tr⟩:=qK ax (.inr dg);have m6:=im.length;cases im with
 | cons u _ wg _ hu wP=>
 cases wP;subst dg;have tE:flat [u]=[u]:=tD (by intro x ab;rw [t6] at ab;subst ab;exact FD hu dY);have fB:=growslice_fits (need:=n+1) (old:=cap) (bytes:=aH.bytes) az an;have cR:=zV (ty:=ty) w g2 dr cg cu jq (base:=base) (sLen:=n) (sCap:=cap) (m:=1) (olds:=olds) (news:=[u]) (jV P)
  (by rw [eG,aa];exact tm) (by rw [eG,aa,← tE];exact kg P w.drew (fun _ _ _=>rfl)) az ag (by rw [jU];exact fB)
 have nM:n+1≤grownCap w (n+1) cap e:=by simp [grownCap,Question.cut]
 have gd:olds.length=n:=by rw [aE.length,aB]
 have oZ:=ad' ed;generalize tn:(Builtin.zeroCells aH.zero.cells (grownCap w (n+1) cap e-(n+1))).toList=a' at cR;have mx:a'.length=grownCap w (n+1) cap e-(n+1):=by
  rw [← tn,ae5];simp [Builtin.zeroCells,oZ,aa]
 generalize grownCap w (n+1) cap e=G at cR nM mx;have wQ:=x7 ca
 obtain ⟨au,hle,aA,k3⟩:=rY wQ (.cells (olds++[u]++a').toArray e (0,0)) (.box e (xs++[v]++a'.map fun _ => .any)) (fun w' iO ar fz=>⟨_,iO,by
  refine bH.append (bH.append (fz _ _ (show bH w.drew p olds xs from aE.mono kX)) (fz _ _ (.cons _ _ _ _ (hu.mono kX) .nil))) (bH.Av a'),fun o aF=>absurd (ca.lt _ _ aF) (by show ¬ w.heap.size<w.heap.size;omega)⟩)
 rw [show w.drew.heap.size=w.heap.size from rfl] at au aA k3;refine ⟨w.heap.size,G,xs++[v]++a'.map (fun _=>ah.any),_,cR,au,kX.trans hle,(vW (w:=w) (p:=p)).trans (kX (w:=w) (p:=p)).size aA,k3,?_,nM,?_⟩
 ·simp only [f9,f8,ag8,mx];omega
 ·rw [ah3 cL,ah1 cL]
theorem uW {t bP:TypeId} {x y:Operand} {a:Act} {val:Value} {w w':World} (ai:o.op = .call { callee := .builtin .append,args := #[x,y],argTypes := #[t,bP] }) (h:(Builtin.append_ #[t,bP] o.type #[a.eval x,a.eval y]).run P w = .ok val w') :
  (execOp a.eval o).run P w = .ok (.value val) w':=by
 unfold execOp;rw [ai];simp only [resolve,invoke,builtin,aa',ae3,i7,ar4,ae0,ag7,h]
theorem a6.Dk (aR:bR P Γ) (I:Ok s L) {t bP e:TypeId} {x y:Operand} {it cJ aH:bQ} {eg bZ:Nat} {v:ah} {dD:bV}
  (ai:o.op = .call { callee := .builtin .append,args := #[x,y],argTypes := #[t,bP] }) (aM:Γ.get? t=some it) (bw:it.bL = .aG e) (c7:Γ.get? bP=some cJ) (dH:∀ k,cJ.bL ≠ .int k)
  (bO:Γ.get? e=some aH) (aa:aH.size=1) (ed:af2 aH.zero.cells.size aH.size=true) (ab:aN env x=some (.aG eg [] .nil)) (ax:aN env y=some (.aG bZ [v] dD)) (dg:bZ=1) (dY:fb v=true) (an:1*aH.bytes≤140737488355328)
  {X:ah→ao→Prop}:a6 P N o env (aU s L) (fun r ak=>Grown s L e 1 [v] r ak) X:=by
 refine a6.kA jd fun ro B a w p aK=>?_
 have gh:=aK.aN ab;have fl:=aK.aN ax;have eO:=fun val w'=>uW (P:=P) (a:=a) (val:=val) (w:=w) (w':=w') ai
 generalize eo:a.eval x=dN at gh eO;generalize fh:a.eval y=gb at fl eO;have tF:dN = .slice none 0 0:=by
  cases gh with
  | hY=>rfl
  | iA a _ _ h=>rcases h with h|h<;>cases h
  | aG g off n cap _ vs _ _ aB=>exact absurd C aB
 subst tF
 obtain ⟨aY,cb,cs',w',fr,gD,hB,ja,my,mz,nf,ng⟩:=K' (ty:=o.type) aR aK.wf (base:=none) (n:=0) (cap:=0) (olds:=[]) (xs:=[]) aM bw c7 dH bO aa ed .nil rfl (by
  have:=run_firstCells_none (P:=P) w.drew 1 0 0 0
  simpa using this) fl dg dY ag uu ag
 exact ⟨_,w',_,p,_,eO _ _ fr,hB,ja,my,⟨aY,cb,cs',rfl,rfl,⟨gD,I⟩,mz,nf,by simpa using ng⟩,.hE _⟩
theorem a6.Dl (aR:bR P Γ) (I:Ok s L) {t bP e:TypeId} {x y:Operand} {it cJ aH:bQ} {b n cap bZ:Nat} {cs:List ah} {v:ah} {dD:bV}
    (ai:o.op = .call { callee := .builtin .append,args := #[x,y],argTypes := #[t,bP] }) (aM:Γ.get? t=some it) (bw:it.bL = .aG e) (c7:Γ.get? bP=some cJ) (dH:∀ k,cJ.bL ≠ .int k)
    (bO:Γ.get? e=some aH) (aa:aH.size=1) (ed:af2 aH.zero.cells.size aH.size=true) (ab:aN env x=some (ee b n cap)) (au:bp L (.own b) (.box e cs) R) (b9:cs.length=cap) (aB:n≤cap) (iD:(cs.take n).all fb=true)
    (ax:aN env y=some (.aG bZ [v] dD)) (dg:bZ=1) (dY:fb v=true) (an:(n+1)*aH.bytes≤140737488355328) (eA:n+1≤9223372036854775807)
    {X:ah→ao→Prop}:a6 P N o env (aU s L) (fun r ak=>Grown s R e (n+1) (cs.take n++[v]) r ak) X:=by
  obtain ⟨b6,bW,eN⟩:=au.perm I;refine a6.kA jd fun ro B a w p aK=>?_
  have gh:=aK.aN ab;have fl:=aK.aN ax;have eO:=fun val w'=>uW (P:=P) (a:=a) (val:=val) (w:=w) (w':=w') ai
  generalize eo:a.eval x=dN at gh eO;generalize fh:a.eval y=gb at fl eO;cases gh;obtain ⟨vs,cW,c6,eW⟩:=aK.wf.obj _ _ (au.get I);have fz:vs.toList.length=cap:=by rw [c6.length,b9]
  have hL:=c6.take n;have wR:=qJ hL iD;have pT:∀ w':World,(∀ j,w'.cell? ⟨b,j,none⟩=w.cell? ⟨b,j,none⟩)→(Builtin.firstCells 1 n (.slice (some ⟨b,0,none⟩) n cap)).run P w' = .ok (vs.toList.take n).toArray w':=by
    intro w' iO;refine run_firstCells_some (P:=P) w' 1 n ⟨b,0,none⟩ n cap (vs.toList.take n) (by rw [ae9,fz];omega) (fun j u hu=>?_);rw [lr,af6,iO,jH cW];rw [ai2] at hu;split at hu
    · simpa using hu
    · cases hu
  by_cases az:cap<n+1
  · obtain ⟨aY,cb,cs',w',fr,gD,hB,ja,my,mz,nf,ng⟩:=K' (ty:=o.type) aR aK.wf (base:=some ⟨b,0,none⟩) (n:=n) (cap:=cap) (olds:=vs.toList.take n) (xs:=cs.take n) aM bw c7 dH bO aa ed hL x0
      (pT w.drew fun _=>rfl) fl dg dY az an eA
    have fR:ao.Sub ((aU s R).set aY (.box e cs')) ((aU s L).set aY (.box e cs')):=by
      refine Df (k := .own aY) ?_;rw [b6];exact yo (k := .own b) (ao.o1 _) bW
    have aq:aU s R aY=none:=by
      have h:=gD;rw [b6] at h;exact (ao.uG h).2
    exact ⟨_,w',_,p,_,eO _ _ fr,hB,ja.sub fR,my.sub fR,⟨aY,cb,cs',rfl,rfl,⟨aq,eN⟩,mz,nf,ng⟩,.hE _⟩
  · obtain ⟨info,d,g1,g2,g3,-⟩:=aR.parts aM
    obtain ⟨m0,c4,ea,dr,dG,-⟩:=aR.parts c7;obtain ⟨jT,kB,cu,c2,fg,eG,jU,jq⟩:=aR.parts bO;have ay:d = .slice e:=by rw [bw] at g3;cases d<;>simp [en] at g3;rw [g3]
    subst ay;have cg:∀ k,c4 ≠ .int k:=fun k e'=>by subst e';exact dH k dG.symm
    subst dg;obtain ⟨us,im,pR,jV,kg,tp,tq,tr⟩:=qK (sz':=1) fl (.inr rfl);cases im with
    | cons u _ wg _ hu wP=>
    cases wP;have j0:∀ x∈[u],x.oneCell'=true:=by intro x ab;rw [t6] at ab;subst ab;exact FD hu dY
    have tE:flat [u]=[u]:=tD j0;have eM:vs.size=cap:=by rw [← ae5];exact fz
    have cR:=CO (ty:=o.type) (P:=P) w g2 dr cg cu b n cap vs cW (xv:=gb) (m:=1) (news:=[u]) (jV P) (by rw [eG,aa,← tE];exact kg P w (fun _ _ _=>rfl)) j0 ag (by rw [eG,aa,eM];simp;omega);rw [eG,aa,aj3] at cR;have hk:bH w p (vs.toList.take n++[u]++vs.toList.drop (n+[u].length)) (cs.take n++[v]++cs.drop (n+1)):=bH.append (bH.append hL (.cons _ _ _ _ hu .nil)) (c6.drop _);have b8:(aU s L) b=some (.box e cs):=au.get I
    obtain ⟨da,j1,ic⟩:=we aK.wf b8 (vs':=(vs.toList.take n++[u]++vs.toList.drop (n+[u].length)).toArray) (cs':=cs.take n++[v]++cs.drop (n+1)) (fun Ax bo=>by
      rw [cW] at bo;cases bo
      simp only [an4,f9,ae9,ai8,ag8,fz]
      rw [eM];omega) (by simpa using hk) _ C
    obtain ⟨f1,f2⟩:=au.put (.box e (cs.take n++[v]++cs.drop (n+1))) I;refine ⟨_,_,_,p,_,eO _ _ cR,da,j1,ic,⟨b,cap,cs.take n++[v]++cs.drop (n+1),rfl,f1,f2,?_,by omega,?_⟩,.hE _⟩
    · simp only [f9,ae9,ai8,ag8,b9];omega
    · have:(cs.take n++[v]).length=n+1:=by simp [b9];omega
      rw [ah3 ag,ah1 ag]
theorem ae.Dk (aR:bR P Γ) (I:Ok s L) {t bP e:TypeId} {x y:Operand} {it cJ aH:bQ} {eg bZ:Nat} {v:ah} {dD:bV} (aq:guardOf ops env o=some true) (ay:o.dst=some d) (a1:z2 d N=true)
  (ai:o.op = .call { callee := .builtin .append,args := #[x,y],argTypes := #[t,bP] }) (aM:Γ.get? t=some it) (bw:it.bL = .aG e) (c7:Γ.get? bP=some cJ) (dH:∀ k,cJ.bL ≠ .int k)
  (bO:Γ.get? e=some aH) (aa:aH.size=1) (ed:af2 aH.zero.cells.size aH.size=true) (ab:aN env x=some (.aG eg [] .nil)) (ax:aN env y=some (.aG bZ [v] dD)) (dg:bZ=1) (dY:fb v=true) (an:1*aH.bytes≤140737488355328)
  (h:∀ aY cb cs',cs'.length=cb→1≤cb→cs'.take 1=[v]→Ok s ((.own aY,.box e cs')::L)→ae P N ops l Q ((d,ee aY 1 cb)::env) (aU s ((.own aY,.box e cs')::L))):ae P N ops (o::l) Q env (aU s L):=by
 refine ae.op aq ay a1 (a6.Dk aR I ai aM bw c7 dH bO aa ed ab ax dg dY an (X:=fun _ _=>False)) ?_ (fun _ _ h=>h.elim);rintro r ak ⟨aY,cb,cs',rfl,rfl,ad,aj,a8,bB⟩;exact h aY cb cs' aj a8 bB ad
theorem ae.Dl (aR:bR P Γ) (I:Ok s L) {t bP e:TypeId} {x y:Operand} {it cJ aH:bQ} {b n cap bZ:Nat} {cs:List ah} {v:ah} {dD:bV} (aq:guardOf ops env o=some true) (ay:o.dst=some d) (a1:z2 d N=true)
  (ai:o.op = .call { callee := .builtin .append,args := #[x,y],argTypes := #[t,bP] }) (aM:Γ.get? t=some it) (bw:it.bL = .aG e) (c7:Γ.get? bP=some cJ) (dH:∀ k,cJ.bL ≠ .int k)
  (bO:Γ.get? e=some aH) (aa:aH.size=1) (ed:af2 aH.zero.cells.size aH.size=true) (ab:aN env x=some (ee b n cap)) (au:bp L (.own b) (.box e cs) R) (b9:cs.length=cap) (aB:n≤cap) (iD:(cs.take n).all fb=true)
  (ax:aN env y=some (.aG bZ [v] dD)) (dg:bZ=1) (dY:fb v=true) (an:(n+1)*aH.bytes≤140737488355328) (eA:n+1≤9223372036854775807)
  (h:∀ aY cb cs',cs'.length=cb→n+1≤cb→cs'.take (n+1)=cs.take n++[v]→Ok s ((.own aY,.box e cs')::R)→ae P N ops l Q ((d,ee aY (n+1) cb)::env) (aU s ((.own aY,.box e cs')::R))):ae P N ops (o::l) Q env (aU s L):=by
 refine ae.op aq ay a1 (a6.Dl aR I ai aM bw c7 dH bO aa ed ab au b9 aB iD ax dg dY an eA (X:=fun _ _=>False)) ?_ (fun _ _ h=>h.elim);rintro r ak ⟨aY,cb,cs',rfl,rfl,ad,aj,a8,bB⟩;exact h aY cb cs' aj a8 bB ad
theorem dw.uX {B:fQ} {ro:Option Nat} {a:Act} {w:World} {p:bU} (h:dw N B ro env s a w p) {t b n cap:Nat} {T:TypeId} {cs:List ah} (aM:env.get? t=some (ee b n cap)) (au:s b=some (.box T cs)) (b9:cs.length=cap) (aB:n≤cap) (hm:n≤9223372036854775807)
  (iD:(cs.take n).all fb=true):∃ bh,dw N B ro ((t,.aG 1 (cs.take n) .bd)::env) (s.del b) a w bh∧de w p w bh∧Kept s (s.del b) w p w bh:=by
 have F2:dw N B ro ((a.tmps.size,.any)::[]) s a w p:=h.restrict _ (fun t v ar=>by
  simp only [Env.get?] at ar
  split at ar
  ·cases ar;exact .any _
  ·cases ar)
 obtain ⟨vs,aa,ad,aj⟩:=h.wf.obj _ _ au;have az:b<w.heap.size:=(t8.1 aa).1;have hle:de w p w (p.dX b True):=⟨rfl,rfl,rfl,g7 _,fun _ _ h => .inl h,fun _ _ _=>rfl,fun _ _ h=>h⟩
 have aA:Kept s (s.del b) w p w (p.dX b True):=⟨fun _ _ _=>rfl,fun aY an aB=>by
  by_cases e:aY=b
  ·subst e;exact ao.nL _ _
  ·rw [ao.m3 _ e];exact aB,fun aY o an aB aF=>by
   rcases aF with aF|⟨rfl,_⟩
   ·exact aF
   ·rw [au] at aB;cases aB⟩
 have ca:dq w (p.dX b True) (s.del b):=by
  refine ⟨fun aY o an=>?_,fun aY o aF=>by rcases aF with aF|⟨rfl,_⟩;exact h.wf.lt _ _ aF;exact az⟩;by_cases e:aY=b
  ·subst e;rw [ao.nL] at an;cases an
  ·rw [ao.m3 _ e] at an
   have ai:=h.wf.obj aY o an;have fa:∀ o,p.dX b True aY o↔p aY o:=fun o=>⟨fun aF=>by rcases aF with aF|⟨e',_⟩;exact aF;exact absurd e' e,.inl⟩
   cases o with
   | box t c=>obtain ⟨us,g1,g2,g3⟩:=ai;exact ⟨us,g1,g2.mono hle,fun o aF=>g3 o ((fa o).1 aF)⟩
   | row t sz n=>obtain ⟨cur,g1,g2,g3,g4⟩:=ai;exact ⟨cur,g1,g2,g3,fun o=>(fa o).trans (g4 o)⟩
   | map es=>obtain ⟨cQ,c,g1,g2,g3⟩:=ai;exact ⟨cQ,c,g1,⟨g2.1.mono hle,g2.2.mono hle⟩,g3⟩
   | lp es it l c=>exact ai.qD hle C C
   | tick m=>exact ai
   | loop r env=>exact ⟨ai.1,fun t v h=>(ai.2 t v h).mono hle⟩
 have aK:=h.step hle aA ca;refine ⟨_,⟨aK.size,fun bP v ar=>?_,aK.wf,aK.defs,aK.round,aK.base⟩,hle,aA⟩;simp only [Env.get?] at ar;split at ar
 ·rename_i he
  have:=ad' he;subst this;cases ar;have aE:=h.env t _ aM;generalize a.tmps.getD t undef=dN at aE;cases aE;have hL:=ad.take n;have wR:=qJ hL iD;have kz:=tD wR;refine .aG b 0 n cap 1 (vs.toList.take n) (cs.take n) .bd bc x0 ?_ (hL.mono hle) (fun v ar=>by rw [Aw (wR v ar)];rfl) hm aB (fun h=>by cases h) (fun b h=>by cases h);rw [kz];intro i v aS;refine ⟨.inr ⟨rfl,trivial⟩,?_⟩;rw [af6,jH aa];rw [ai2] at aS;split at aS
  ·simpa using aS
  ·cases aS
 ·exact aK.env bP v ar
theorem af.uX {c:Code} (I:Ok s L) (t b:Nat) {n cap:Nat} {T:TypeId} {cs:List ah} (aM:env.get? t=some (ee b n cap)) (au:bp L (.own b) (.box T cs) R) (b9:cs.length=cap) (aB:n≤cap) (hm:n≤9223372036854775807) (iD:(cs.take n).all fb=true)
  (h:Ok s R→af P N c Q ((t,.aG 1 (cs.take n) .bd)::env) (aU s R)):af P N c Q env (aU s L):=by
 obtain ⟨aa,ad⟩:=au.del I;intro tG B a w p eZ aK;obtain ⟨bh,aj,a8,bB⟩:=aK.uX aM (au.get I) b9 aB hm iD;rw [aa] at aj bB;exact mq (h ad tG B a w bh eZ aj) fun _ _ _ q=>q.after a8 bB
end
section
open Go.Sort
variable {P:Program} {α:Type}
theorem Ay {w:World} {p:bU} (k:Nat):de w p (Sort.ahead w k) p:=⟨rfl,rfl,rfl,g7 _,fun _ _ h=>h,fun _ _ _=>rfl,fun _ _ h=>h⟩
theorem T' {w:World} {p:bU} {s:ao} (k:Nat) (h:dq w p s):dq (Sort.ahead w k) p s:=h.grow (Ay k) (fun _ _=>rfl) (fun _ _ _ h=>h) h.lt
theorem Ua {w:World} {p:bU} {s:ao} (k:Nat):Kept s s w p (Sort.ahead w k) p:=⟨fun _ _ _=>rfl,fun _ _ h=>h,fun _ _ _ _ h=>h⟩
theorem Gs (w:World) (os:Array Obj) (b:Nat) (h:b<w.heap.size):(grow w os).heap[b]? = w.heap[b]?:=by
 show (w.heap++os)[b]? = _;rw [Array.getElem?_append_left h]
theorem La {w:World} {p:bU} (az:∀ b o,p b o→b<w.heap.size) (os:Array Obj):de w p (grow w os) p:=
 de.of_heap C C C (by show w.heap.size≤(w.heap++os).size;simp) (fun _ _ h=>h) az (fun b an=>Gs w os b an)
theorem Ub {w:World} {p:bU} {s:ao} (h:dq w p s) (os:Array Obj):dq (grow w os) p s:=
 h.grow (La h.lt os) (fun b an=>Gs w os b an) (fun _ _ _ h=>h) (fun b o aF=>aj7 (h.lt b o aF) (by show w.heap.size≤(w.heap++os).size;simp))
theorem Uc {w:World} {p:bU} {s:ao} (os:Array Obj):Kept s s w p (grow w os) p:=⟨fun b an _=>Gs w os b an,fun _ _ h=>h,fun _ _ _ _ h=>h⟩
theorem Lb {w:World} {p:bU} {enc:α→Value} {encA:α→ah} (ad:∀ w p a,Rel w p (enc a) (encA a)):∀ l:List α,bH w p (l.map enc) (l.map encA)
 | [] => .nil
 | a::l => .cons _ _ _ _ (ad w p a) (Lb ad l)
theorem Lc {w:World} {p:bU} {enc:α→Value} {encA:α→ah} (aa:∀ w p v a,Rel w p v (encA a)→v=enc a):∀ {l:List α} {vs:List Value},bH w p vs (l.map encA)→vs=l.map enc
  | [],vs,h=>by cases h;rfl
  | a::l,vs,h=>by
    cases h with
    | cons v _ vs' _ ar aM=>rw [aa _ _ _ _ ar,Lc aa aM];rfl
variable [Inhabited α]
theorem bI.sort {f:FuncId} {enc:α→Value} {encA:α→ah} {le:α→α→Bool} {e:TypeId} (aD:tu P f) (aa:∀ w p v a,Rel w p v (encA a)→v=enc a) (ad:∀ w p a,Rel w p (enc a) (encA a))
  (Ud:∀ (sc off cap:Nat) (gv:List α) (w:World),Holds enc w sc off gv.toArray→sc<w.heap.size→gv.length<4611686018427387904→Calls P f #[.slice (some ⟨sc,off,none⟩) gv.length cap] w fun e w'=>e = .returned (.tuple #[])∧∃ n os,w'=grow (putRow enc (Sort.ahead w n) sc off (gv.mergeSort le).toArray) os)
  (b cap:Nat) (gv:List α) (rest:List ah) (aC:gv.length<4611686018427387904) :
  bI P f [ee b gv.length cap] [(.own b,.box e (gv.map encA++rest))] (fun o K=>o = .ret (.cr [])∧K=[(.own b,.box e ((gv.mergeSort le).map encA++rest))]):=by
 intro s I;refine ⟨aD,fun w p vs ca eS=>?_⟩;cases eS with
 | cons v _ vs' _ ar aM=>
 cases aM;cases ar;obtain ⟨cur,cW,c6,eW⟩:=ca.obj b _ (ao.gr _ _ _);have az:b<w.heap.size:=(t8.1 cW).1;have b9:cur.toList=gv.map enc++cur.toList.drop gv.length:=by
  have aj:=c6.take gv.length;rw [ah3 bc,ah1 (l:=gv.map encA) bc] at aj;rw [← Lc aa aj,ah']
 have hG:gv.length≤cur.size:=by
  have:=c6.length;rw [ae5] at this;rw [this];simp
 have Gt:Holds enc w b 0 gv.toArray:=by
  intro j aI;have Gu:j<gv.length:=by simpa using aI
  refine ⟨?_,by simp [World.frozen?,cW]⟩;rw [af6,jH cW,← au7,b9,af9 (by simpa using Gu),ae7,d8 Gu];simp [Gu]
 refine Calls.mono (Ud b 0 cap gv w Gt az aC) ?_;rintro Dm w' ⟨rfl,k,os,rfl⟩;refine ⟨by simp,.ret (.cr []),aU s [(.own b,.box e ((gv.mergeSort le).map encA++rest))],p,.cr #[] [] .nil,⟨_,rfl,I,rfl,rfl⟩,?_⟩;have ju:(gv.mergeSort le).length=gv.length:=List.length_mergeSort gv;have Ab:putRow enc (Sort.ahead w k) b 0 (gv.mergeSort le).toArray=(Sort.ahead w k).setRow b ((gv.mergeSort le).map enc++cur.toList.drop gv.length).toArray:=by
  unfold putRow mapBlock World.setRow;congr 1;refine aw5 fun i=>?_
  rw [ao',ao'];by_cases e:b=i
  ·subst e
   rw [f7 C,f7 C];show (w.heap[b]?).map _=(w.heap[b]?).map _;rw [cW];simp only [al',onCells];congr 2;refine aw5 fun j=>?_
   simp only [putCells,Array.getElem?_mapIdx,g9,true_and,af6,an4,ju,au'];rw [← au7,← au7];by_cases aI:j<gv.length
   ·rw [af9 (by rw [f8,ju];exact aI),ae7,d8 (l:=gv.mergeSort le) (by rw [ju];exact aI)]
    have:j<cur.toList.length:=by rw [ae5];omega
    rw [d8 this];simp [aI,ju]
   ·rw [ae' (by rw [f8,ju];omega),f8,ju,ao8]
    rw [show gv.length+(j-gv.length)=j by omega];cases cur.toList[j]? with
    | none=>rfl
    | some y=>simp [aI]
  ·rw [d7 e,d7 e]
 rw [Ab];have hk:bH w p (((gv.mergeSort le).map enc++cur.toList.drop gv.length).toArray).toList ((gv.mergeSort le).map encA++rest):=by
  refine bH.append (Lb ad _) ?_;have:=c6.drop gv.length;rwa [List.drop_append_of_le_length bc,List.drop_of_length_le (l:=gv.map encA) bc,f0] at this
 have df:=T' k ca;have b8:(aU s [(.own b,.box e (gv.map encA++rest))]) b=some (.box e (gv.map encA++rest)):=ao.gr _ _ _
 obtain ⟨da,j1,ic⟩:=we df b8 (vs':=((gv.mergeSort le).map enc++cur.toList.drop gv.length).toArray) (cs':=(gv.mergeSort le).map encA++rest) (fun Ax bo=>by
  have Ld:w.heap[b]? = some (.cells Ax e (0,0)):=bo
  rw [cW] at Ld;cases Ld
  simp only [an4,f9,f8,ju,ai8,ae5]
  omega) (hk.mono (Ay k)) _ C
 rw [show (aU s [(.own b,.box e (gv.map encA++rest))]).set b (.box e ((gv.mergeSort le).map encA++rest))=aU s [(.own b,.box e ((gv.mergeSort le).map encA++rest))] from ao.set_set _ _ _ _] at j1 ic;refine ⟨((Ay k).trans da).trans (La ic.lt os),((Ua k).trans (Ay (p:=p) k).size j1).trans ((Ay k).trans da).size (Uc os),Ub ic os⟩
end
section
variable {P:Program} {Γ:cw} {N:Nat} {ops:Array Oper} {Q:b3→Env→ao→Prop} {env:Env} {s:ao} {l:List Oper} {o:Oper} {d:Nat} {L R du:bb}
end
section
variable {P:Program} {Γ:cw} {N:Nat} {env:Env} {s:ao}
variable {ops:Array Oper} {l:List Oper} {Q:b3→Env→ao→Prop} {o:Oper} {d m:Nat}
end
theorem bf.dK {P:Program} {Γ:cw} {N:Nat} {ops:Array Oper} {Q:b3→Env→ao→Prop} {D:Nat→Bool} {env:Env} {s:ao} (t:Nat) {b:Bool} (ar:env.get? t=some (.bool b)) (he:b=true)
  (h:bf P Γ N ops Q D ((t,.bool true)::env) s):bf P Γ N ops Q D env s:=by
 subst he;refine bf.congr _ (fun x=>?_) h;show (if af2 t x then _ else _)=_;split
 ·rename_i ab
  rw [← ar,ad' ab]
 ·rfl
theorem bf.dh {P:Program} {Γ:cw} {N:Nat} {ops:Array Oper} {Q:b3→Env→ao→Prop} {D:Nat→Bool} {env:Env} {s:ao} (t:Nat) {b:Bool} (ar:env.get? t=some (.bool b)) (he:b=false)
  (h:bf P Γ N ops Q D ((t,.bool false)::env) s):bf P Γ N ops Q D env s:=by
 subst he;refine bf.congr _ (fun x=>?_) h;show (if af2 t x then _ else _)=_;split
 ·rename_i ab
  rw [← ar,ad' ab]
 ·rfl
section
variable {P:Program} {Γ:cw} {N:Nat} {Q:b3→Env→ao→Prop} {env:Env} {s:ao} {l:List Oper} {m:Nat}
theorem bf.F' (aR:bR P Γ) {i:Nat} {o:Oper} {d:Nat} {t bP e:TypeId} {x y:Operand} {it cJ aH:bQ} {eg bZ n:Nat} {xs ys:List ah} {own dD:bV} (aE:eP l.toArray m (idxs 0 l)=[i]) (ai:l.toArray[i]? = some o) (ay:o.dst=some d) (a1:z2 d N=true)
  (aq:c8 l env o) (b1:o.op = .call { callee := .builtin .append,args := #[x,y],argTypes := #[t,bP] }) (aM:Γ.get? t=some it) (bw:it.bL = .aG e) (c7:Γ.get? bP=some cJ) (dH:∀ k,cJ.bL ≠ .int k)
  (bO:Γ.get? e=some aH) (ab:aN (b2 l env o) x=some (.aG eg xs own)) (ax:aN (b2 l env o) y=some (.aG bZ ys dD)) (hI:eg=aH.size) (dg:ys=[]∨bZ=aH.size)
  (ed:af2 aH.zero.cells.size aH.size=true) (dY:∀ y∈ys,lu aH.size y=true) (an:(xs.length+ys.length)*aH.bytes≤140737488355328) (eA:xs.length+ys.length≤9223372036854775807) (aB:n=xs.length)
  {p2:ao} (au:p2=rowOf s e aH.size n own) (I:qX s n own)
  (h:∀ dz,qX s (xs.length+ys.length) dz→bf P Γ N l.toArray Q (bX (m|||2^i)) ((d,.aG aH.size (xs++ys) dz)::env) (rowOf s e aH.size (xs.length+ys.length) dz)):bf P Γ N l.toArray Q (bX m) env p2:=by
 subst au;subst aB;refine bf.one aE ai ay a1 aq (a6.F' aR b1 aM bw c7 dH bO ab ax hI dg ed dY an eA C I (X:=fun _ _=>False)) ?_ (fun _ _ h=>h.elim);rintro r ak ⟨dz,aa,-,-,rfl,rfl⟩;exact h dz aa
end
theorem hl.args {P:Program} {f:FuncId} {xs ys:List ah} {s:ao} {R:eB→ao→Prop} (aC:cS xs ys) (h:hl P f ys s R):hl P f xs s R:=
 ⟨h.1,fun w p vs ca aE=>h.2 w p vs ca (aC.rel aE)⟩
theorem bI.args {P:Program} {f:FuncId} {xs ys:List ah} {K:bb} {aeb:eB→bb→Prop} (h:cS xs ys) (k:bI P f ys K aeb):bI P f xs K aeb:=fun s I=>hl.args h (k s I)
theorem aV.args {P:Program} {f:FuncId} {xs ys:List ah} {v:ah} (h:cS xs ys) (k:aV P f ys v):aV P f xs v:=fun s=>hl.args h (k s)
theorem p3 {Γ:cw} {env:Env} {s:ao} {a b:Nat} {t T:TypeId} {i:bQ} {cs:List ah} {v:ah} (he:env.get? a=some (.ptr b 0)) (aS:Γ.get? t=some i) (au:s b=some (.box T cs)) (aC:hP i cs 0=some v) :
  oq Γ env s [.cell a t]=some v:=by simp [oq,wv,z8,he,aS,au,aC]
theorem uY {Γ:cw} {env:Env} {s:ao} {a b c:Nat} {t T:TypeId} {i:bQ} {cs:List ah} {v u:ah} (he:env.get? a=some (.ptr b 0)) (aS:Γ.get? t=some i) (au:s b=some (.box T cs)) (aC:hP i cs 0=some v) (aD:env.get? c=some u) :
  oq Γ env s [.cell a t,.tmp c]=some (.cr [v,u]):=by simp [oq,wv,z8,he,aS,au,aC,aD]
theorem ae.jw {P:Program} {N:Nat} {ops:Array Oper} {Q:b3→Env→ao→Prop} {env:Env} {s:ao} {l:List Oper} {L:bb} (I:Ok s L) (e:TypeId) (sz n:Nat) (h:Ok s ((.nil,.row e sz n)::L)→ae P N ops l Q env (aU s ((.nil,.row e sz n)::L))):ae P N ops l Q env (aU s L):=h ⟨trivial,I⟩
theorem af.jw {P:Program} {N:Nat} {Q:b3→Env→ao→Prop} {env:Env} {s:ao} {c:Code} {L:bb} (I:Ok s L) (e:TypeId) (sz n:Nat) (h:Ok s ((.nil,.row e sz n)::L)→af P N c Q env (aU s ((.nil,.row e sz n)::L))):af P N c Q env (aU s L):=h ⟨trivial,I⟩
def Le (P:Program) {α:Type} (cj:α→ah) (l:Nat) (Go:List α→bb→Prop) (fD:bb→Prop) (fK:ah→bb→Prop):Prop:=
 ∀ x rem K,Go (x::rem) K→ds P (lY l) [cj x] K (fun o aQ=>(o = .ret (.bool true)∧Go rem aQ)∨(o = .ret (.bool false)∧fD aQ)∨∃ v,o = .panic v∧fK v aQ)
def yu (P:Program) (f:FuncId) (first cap:List ah) (nh:bb) {α:Type} (cj:α→ah) (xs:List α):Prop:=
 ∀ (l:Nat) (Go:List α→bb→Prop) (fD:bb→Prop) (fK:ah→bb→Prop),Le P cj l Go fD fK→∀ K,Go xs K →
  bI P f (first++([lY l]++cap)) (nh++K) (fun o aQ=>(o = .ret (.cr [])∧(Go [] aQ∨fD aQ))∨∃ v,o = .panic v∧fK v aQ)
theorem aJ.eb:∀ L:bb,aJ L L []
 | [] => .nil
 | (_,_)::L => .cons .here (aJ.eb L)
theorem aJ.there {L K R:bb} {e:bV×dy} (h:aJ L K R):aJ (e::L) K (e::R):=by
 induction h with
 | nil=>exact .nil
 | cons h t aW=>exact .cons (.there h) aW
theorem aJ.app {L K R aQ du:bb} (h:aJ L K R) (eY:aJ R aQ du):aJ L (K++aQ) du:=by
 induction h with
 | nil=>exact eY
 | cons h t aW=>exact .cons h (aW eY)
theorem bp.app {L R:bb} {k:bV} {o:dy}:∀ (K:bb),bp L k o R→bp (K++L) k o (K++R)
 | [],h=>h
 | _::K,h => .there (bp.app K h)
theorem bp.Ue {L R:bb} {k:bV} {o:dy} (h:bp L k o R) (M:bb):bp (L++M) k o (R++M):=by
 induction h with
 | here=>exact .here
 | there h aW=>exact .there aW
theorem aJ.jx {L K du R:bb} (h:aJ L K du):aJ (L++R) K (du++R):=by
 induction h with
 | nil=>exact .nil
 | cons h t aW=>exact .cons (h.Ue _) aW
def At (s:ao) (aeo:bb→Prop) (ak:ao):Prop:=∃ L K R,ak=aU s L∧Ok s L∧aJ L K R∧aeo K
theorem At.mk {s:ao} {aeo:bb→Prop} {L R:bb} (K:bb) (I:Ok s L) (au:aJ L K R) (aw:aeo K):At s aeo (aU s L):=⟨L,K,R,rfl,I,au,aw⟩
theorem hT.less {P:Program} {fv:ah} {args:List ah} {s:ao} {R du:eB→ao→Prop} (h:hT P fv args s R) (aE:∀ o ak,R o ak→∃ eL,ao.Sub eL ak∧du o eL):hT P fv args s du:=by
 intro w p v vs ca ar eM;refine (h w p v vs ca ar eM).mono ?_;rintro e w' ⟨o,ak,bh,aa,ad,aj,a8,bB⟩;obtain ⟨eL,cu,c2⟩:=aE o ak ad;exact ⟨o,eL,bh,aa,c2,aj,a8.sub cu,bB.sub cu⟩
section
variable {P:Program} {N:Nat} {Q:b3→Env→ao→Prop} {env:Env} {s:ao} {L R:bb}
theorem af.Gv {α:Type} {cj:α→ah} {xs:List α} {t:Tmp} {g:Operand} {hi body:Code} {f:FuncId} {first cap:List ah} {nh:bb} (I:Ok s L) (aq:aN env g=some (.func f first cap)) (a1:t<N)
  (ox:yu P f first cap nh cj xs) (au:aJ L nh R) (aeo:List α→bb→Prop) (J:Code→bb→Prop) (tH:ah→bb→Prop) (bo:aeo xs R)
  (tc:∀ s x rem K,aeo (x::rem) K→Ok s K→af P N hi (b3.andThen (af P N body (C4 (At s (aeo rem)) (fun j=>At s (J j)) (fun v=>At s (tH v)))) (fun _ _ _=>False)) ((t,cj x)::env) (aU s K))
  (aB:∀ K,aeo [] K→Ok s K→Q .normal env (aU s K))
  (aI:∀ j K,J j K→Ok s K→af P N j Q env (aU s K))
  (ab:∀ v K,tH v K→Ok s K→Q (.panic v) env (aU s K)):af P N (.rangeFunc g #[t] hi body) Q env (aU s L):=by
 refine af.KQ aq (by intro bP c7;simp at c7;subst c7;exact a1) fun l r aC Gw=>?_
 have Gx:Ok s ((.own l,.loop r env)::L):=⟨aC,I⟩;have pf:Le P cj l (fun rem K=>∃ aQ,K=(.own l,.loop r env)::aQ∧aeo rem aQ) (fun K=>∃ j aQ,K=(.own l,.loop (qW r j) env)::aQ∧J j aQ) (fun v K=>∃ aQ,K=(.own l,.loop (busy r) env)::aQ∧tH v aQ):=by
  rintro x rem _ ⟨K,rfl,aw⟩ ak Az;refine (Gw [cj x] _ (At ak (aeo rem)) (fun j=>At ak (J j)) (fun v=>At ak (tH v)) (ao.gr _ _ _) C ?_).less ?_
  ·have:=ao.zQ (aU ak K) l (.loop r env) Az.1
   show af P N hi _ _ (((aU ak K).set l (.loop r env)).del l);rw [this];exact tc ak x rem K aw Az.2
  ·have key:∀ {L K R:bb} {o:dy},aU ak L l=none→Ok ak L→aJ L K R→ao.Sub (aU ak ((.own l,o)::K)) ((aU ak L).set l o)∧Ok ak ((.own l,o)::K):=by
    intro L K R o aa ad aj;exact (aJ.cons bp.here aj).sub (L:=(.own l,o)::L) ⟨aa,ad⟩
   rintro o eL (⟨rfl,dC,aa,rfl,L,aQ,R,rfl,ad,a8,aj⟩|⟨rfl,j,dC,aa,rfl,L,aQ,R,rfl,ad,a8,aj⟩|⟨v,dC,rfl,aa,rfl,L,aQ,R,rfl,ad,a8,aj⟩)
   ·obtain ⟨cu,c2⟩:=key aa ad a8 (o := .loop r env)
    exact ⟨_,cu,(.own l,.loop r env)::aQ,rfl,c2,.inl ⟨rfl,aQ,rfl,aj⟩⟩
   ·obtain ⟨cu,c2⟩:=key aa ad a8 (o := .loop (qW r j) env)
    exact ⟨_,cu,(.own l,.loop (qW r j) env)::aQ,rfl,c2,.inr (.inl ⟨rfl,j,aQ,rfl,aj⟩)⟩
   ·obtain ⟨cu,c2⟩:=key aa ad a8 (o := .loop (busy r) env)
    exact ⟨_,cu,(.own l,.loop (busy r) env)::aQ,rfl,c2,.inr (.inr ⟨v,rfl,aQ,rfl,aj⟩)⟩
 have c0:=(ox l _ _ _ pf _ ⟨R,rfl,bo⟩).at Gx ((au.there (e:=(.own l,.loop r env))).app (aJ.eb _));refine c0.mono ?_;rintro o eL ⟨M,rfl,iQ,aQ,rfl,h⟩;rw [d9] at iQ ⊢;rcases h with ⟨rfl,⟨mG,rfl,h⟩|⟨j,mG,rfl,h⟩⟩|⟨v,rfl,mG,rfl,h⟩
 ·exact .inl ⟨aU s mG,iQ.1,rfl,aB mG h iQ.2⟩
 ·exact .inr ⟨j,aU s mG,iQ.1,rfl,aI j mG h iQ.2⟩
 ·exact ⟨aU s mG,_,iQ.1,rfl,ab v mG h iQ.2⟩
end
section
variable {P:Program} {Γ:cw} {N:Nat} {l:List Oper} {Q:b3→Env→ao→Prop} {env:Env} {s:ao} {m d:Nat} {o:Oper} {L K R:bb} {aeb:eB→bb→Prop}
theorem bf.b4 (i:Nat) {f:FuncId} {fW:Array Operand} {cZ:Array TypeId} {xs:List ah} (aE:eP l.toArray m (idxs 0 l)=[i]) (ai:l.toArray[i]? = some o) (ay:o.dst=some d) (a1:z2 d N=true)
  (aq:c8 l env o) (b1:o.op = .call { callee := .value (.func f),args:=fW,argTypes:=cZ }) (aO:fS (b2 l env o) fW.toList=some xs) (h:bI P f xs K aeb) (I:Ok s L) (au:aJ L K R)
  (aA:∀ x aQ,aeb (.ret x) aQ→Ok s (aQ++R)→bf P Γ N l.toArray Q (bX (m|||2^i)) ((d,x)::env) (aU s (aQ++R))) (ab:∀ x aQ,aeb (.panic x) aQ→Ok s (aQ++R)→Q (.panic x) [] (aU s (aQ++R))):bf P Γ N l.toArray Q (bX m) env (aU s L):=
 bq.b4 aE ai ay a1 aq b1 aO h I au (fun _ _ _ _ => .inl trivial) aA ab
theorem bq.Uf {J:ao→Prop} (i:Nat) (aR:bR P Γ) (c9:J s) {t:TypeId} {x:Operand} {dR:bQ} {b off:Nat} {v:ah} (aE:iG l.toArray m i=true) (ai:l.toArray[i]? = some o) (ay:o.dst=some d) (a1:z2 d N=true)
  (aq:c8 l env o) (b1:o.op = .load t x) (aM:Γ.get? t=some dR) (ab:aN (b2 l env o) x=some (.ptr b off)) (au:∀ s,J s→∃ T cs,s b=some (.box T cs)∧hP dR cs off=some v)
  (h:bq J P Γ N l.toArray Q (bX (m|||2^i)) ((d,v)::env) s):bq J P Γ N l.toArray Q (bX m) env s:=
 bq.r7 c9 aE ai ay a1 aq (fun s hK=>by obtain ⟨T,cs,aa,ad⟩:=au s hK;exact a6.uH aR b1 aM ab aa ad) h
end
section
variable {P:Program} {N:Nat} {Q:b3→Env→ao→Prop} {env:Env} {s:ao} {L:bb}
def Dn {σ:Type} (s:ao) (E:σ→Env) (K:σ→bb) (aeo:σ→Prop) (Q:b3→Env→ao→Prop):b3→Env→ao→Prop
 | .normal,eU,ak=>∃ y ou du,aeo y∧Env.Sub (E y) eU∧ak=aU s ou∧Ok s ou∧aJ ou (K y) du
 | e,eU,ak=>Q e eU ak
theorem Dn.mk {σ:Type} {E:σ→Env} {K:σ→bb} {aeo:σ→Prop} (y:σ) {du:bb} (I:Ok s L) (aw:aeo y) (e0:Env.Sub (E y) env) (b8:aJ L (K y) du):Dn s E K aeo Q .normal env (aU s L):=⟨y,L,du,aw,e0,rfl,I,b8⟩
theorem af.Ug {σ:Type} {x y:Code} {oW:b3→Env→ao→Prop} (E:σ→Env) (K:σ→bb) (aeo:σ→Prop) (wK:af P N x (Dn s E K aeo oW) env (aU s L)) (wL:∀ z,aeo z→Ok s (K z)→af P N y Q (E z) (aU s (K z))) :
  af P N x (b3.andThen (af P N y Q) oW) env (aU s L):=by
 refine wK.mono ?_;intro e eU ak h;cases e with
 | normal=>
  obtain ⟨z,ou,du,g1,g2,rfl,g3,g4⟩:=h;obtain ⟨cu,c2⟩:=g4.sub g3;exact af.sub _ g2 (af.drop _ cu (wL z g1 c2))
 | exit id=>exact h
 | ret=>exact h
 | panic v=>exact h
end
section
variable {P:Program} {N:Nat} {ops:Array Oper} {Q:b3→Env→ao→Prop} {env:Env} {s:ao} {l:List Oper} {o:Oper} {d:Nat}
theorem a6.rem {t yt:TypeId} {x y:Operand} {k:IntKind} {a b r:Int} (ai:o.op = .binOp .rem t x y yt) (ab:aN env x=some (.int k a)) (ax:aN env y=some (.int k b)) (an:b≠0) (aE:a.tmod b=r) :
  a6 P N o env s (fun x ak=>x = .int k r∧ak=s) (fun _ _=>False):=by
 refine a6.nI jd fun ro B c1 w p aK=>?_
 have aa:=aK.aN ab;have ad:=aK.aN ax;generalize eo:c1.eval x=dN at aa;generalize fh:c1.eval y=gb at ad;cases aa;cases ad;refine uK (v := .int k r) ai ?_ ?_ (.int _ _)
 ·rw [eo,fh];unfold eqGuard;simp
 ·rw [eo,fh]
  simp only [binOp,ne_eq,not_true_eq_false,ah9,Op.intDiv,an,aE];rfl
theorem ae.rem {t yt:TypeId} {x y:Operand} {k:IntKind} {a b r:Int} (aq:guardOf ops env o=some true) (ay:o.dst=some d) (a1:z2 d N=true) (ai:o.op = .binOp .rem t x y yt) (ab:aN env x=some (.int k a)) (ax:aN env y=some (.int k b)) (an:b≠0) (aE:a.tmod b=r)
  (h:ae P N ops l Q ((d,.int k r)::env) s):ae P N ops (o::l) Q env s:=
 ae.op aq ay a1 (a6.rem ai ab ax an aE) (fun x ak ⟨aa,ad⟩=>by subst aa;subst ad;exact h) (fun _ _ h=>h.elim)
end
theorem Gy {P:Program} {cs:List Frame} (T:List Deferred):∀ (b':List Nat) (hj:Frame) (w:World),hj.mode ≠ .run→hj.defers=marksOf b'++T →
  (∀ d∈b',w.heap[d]? = some (.deferred (some [])))→b'.Nodup→Steps P (lone hj cs w) (lone { hj with defers:=T } cs (hy w b')):=by
 intro b'
 induction b' with
 | nil=>
  intro hj w _ ay _ _;have:({ hj with defers:=T }:Frame)=hj:=by cases hj;simp_all [marksOf]
  rw [this];exact .refl P _
 | cons d b' aW=>
  intro hj w hm ay an aB;have nE:w.heap[d]? = some (.deferred (some [])):=an d (i6 ..);have aM:(Instr.takeDeferred d).run P w = .ok [] { w with heap:=w.heap.setIfInBounds d (.deferred none) }:=by
   unfold Instr.takeDeferred;simp only [aa',getObj,setObj,Sem.run,nE,Result.andThen];rfl
  have aa:step P (lone hj cs w) = .next (lone { hj with defers:=marksOf b'++T } cs { w with heap:=w.heap.setIfInBounds d (.deferred none) }):=by
   refine step_lone_go ?_;cases vQ:hj.mode with
   | run=>exact absurd vQ hm
   | returning=>simp [stepG,unwind,vQ,ay,marksOf,au5,aM]
   | panicking chain=>simp [stepG,unwind,vQ,ay,marksOf,au5,aM]
  have ez:=List.nodup_cons.1 aB;refine .head aa (aW { hj with defers:=marksOf b'++T } _ hm C ?_ ez.2);intro c4 cg;have cP:d≠c4:=fun e=>ez.1 (e ▸ cg)
  simp only [Array.getElem?_setIfInBounds,cP,ah9];exact an c4 (i0 _ cg)
def Uh (P:Program) (fn:Func) (R:Ending→World→Prop) (T:List Deferred):hg→Act→World→Prop
 | .normal,a,w | .ret,a,w=>∃ b',a.defers=marksOf b'++T∧b'.Nodup∧(∀ d∈b',w.heap[d]? = some (.deferred (some [])))∧Leaves P fn a.tmps R T .returning (hy w b')
 | .panic dx,a,w=>∃ b',a.defers=marksOf b'++T∧b'.Nodup∧(∀ d∈b',w.heap[d]? = some (.deferred (some [])))∧Leaves P fn a.tmps R T (.panicking dx) (hy w b')
 | .exit _,_,_=>False
theorem Lf {P:Program} {f:FuncId} {fn:Func} {Dp fr rest:Code} {args:Array Value} {w:World} {R:Ending→World→Prop} {T:List Deferred}
  (aX:P.funcs[f]? = some fn) (an:fn.body=some (.seq Dp (.seq fr rest)))
  (h:Dp.wp P (fun e a w=>e = .normal∧fr.wp P (fun e a w=>e = .normal∧∀ b:Frame,b.roundOf=none→b.fn=f→jS P b rest (Uh P fn R T) a w) a w) { tmps:=args++al4 (fn.ntmps-args.size) undef,defers:=[] } w) :
  Calls P f args w R:=by
 intro cs
 let b:Frame:={ (default:Frame) with fn:=f,kind := .normal,roundOf:=none }
 have tb:Frame.enter P f args .normal =
   b.at { tmps:=args++al4 (fn.ntmps-args.size) undef,defers:=[] } [.code (.seq Dp (.seq fr rest))]:=by
  simp [Frame.enter,Frame.at,aX,an,b]
 obtain ⟨jG,a0,l6,⟨rfl,aa⟩,Ui⟩:=h b [.code (.seq fr rest)] cs;obtain ⟨b6,df,da,⟨rfl,ad⟩,s1⟩:=aa b [.code rest] cs;have Uj:Steps P (lone (b.at { tmps:=args++al4 (fn.ntmps-args.size) undef,defers:=[] } [.code Dp,.code (.seq fr rest)]) cs w) (lone (b.at a0 [.code (.seq fr rest)]) cs l6):=Ui;have Uk:Steps P (lone (b.at a0 [.code fr,.code rest]) cs l6) (lone (b.at df [.code rest]) cs da):=s1;have pP:Steps P (lone (Frame.enter P f args .normal) cs w) (lone (b.atR df [.code rest]) cs da):=by
  rw [tb,Frame.atR_of_none C];exact .head step_seq (Uj.trans (.head step_seq Uk))
 obtain ⟨e,c1,w',bn,ga⟩:=ad b rfl rfl [] cs;cases e with
 | normal=>
  obtain ⟨b',ay,aB,kT,bM⟩:=bn;have au:=Steps.trans (Steps.trans pP ga) (Steps.trans (.one (stepR_end C)) (Gy T b' { b.atR c1 [] with mode := .returning } w' bc ay kT aB));obtain ⟨e',mr,AA,dW,hK,eZ,aC⟩:=leaves_steps T .returning _ { b.atR c1 [] with mode := .returning,defers:=T } cs rfl rfl rfl aX rfl bM;exact ⟨e',mr,AA,dW,Comes.of_steps au hK,eZ,aC⟩
 | ret=>
  obtain ⟨b',ay,aB,kT,bM⟩:=bn;obtain ⟨k₁,au⟩:=ga;have au:=Steps.trans (Steps.trans pP au) (Steps.trans (.one (stepR_ret C)) (Gy T b' { b.atR c1 (.code .ret::k₁) with mode := .returning } w' bc ay kT aB));obtain ⟨e',mr,AA,dW,hK,eZ,aC⟩:=leaves_steps T .returning _ { b.atR c1 (.code .ret::k₁) with mode := .returning,defers:=T } cs rfl rfl rfl aX rfl bM;exact ⟨e',mr,AA,dW,Comes.of_steps au hK,eZ,aC⟩
 | panic dx=>
  obtain ⟨b',ay,aB,kT,bM⟩:=bn;obtain ⟨k₁,au⟩:=ga;have au:=Steps.trans (Steps.trans pP au) (Gy T b' { b.atR c1 k₁ with mode := .panicking dx } w' bc ay kT aB);obtain ⟨e',mr,AA,dW,hK,eZ,aC⟩:=leaves_steps T (.panicking dx) _ { b.atR c1 k₁ with mode := .panicking dx,defers:=T } cs rfl rfl rfl aX rfl bM;exact ⟨e',mr,AA,dW,Comes.of_steps au hK,eZ,aC⟩
 | exit id=>exact bn.elim
section
variable {P:Program} {Γ:cw} {N:Nat} {l:List Oper} {Q:b3→Env→ao→Prop} {env:Env} {s:ao} {m d:Nat} {o:Oper} {L K R:bb} {aeb:eB→bb→Prop}
theorem bf.jv (i:Nat) (aR:bR P Γ) (I:Ok s L) {t dO e1:TypeId} {x y:Operand} {ok:Bool} {it gK aH:bQ} {mb:Nat} {es:List (ah×ah)} {k z:ah} {r:Option ah} (aE:eP l.toArray m (idxs 0 l)=[i]) (ai:l.toArray[i]? = some o) (ay:o.dst=some d) (a1:z2 d N=true)
  (aq:c8 l env o) (b1:o.op = .lookup t x y ok) (aM:Γ.get? t=some it) (bw:it.bL = .map dO e1) (h1:Γ.get? dO=some gK) (bO:Γ.get? e1=some aH) (ab:aN (b2 l env o) x=some (.map mb)) (ax:aN (b2 l env o) y=some k) (au:bp L (.own mb) (.map es) R)
  (aX:kf gK.bL k=true) (jo:i' es k=some r) (bG:hF aH.zero=some z) (h:bf P Γ N l.toArray Q (bX (m|||2^i)) ((d,lU ok z r)::env) (aU s L)):bf P Γ N l.toArray Q (bX m) env (aU s L):=
 bf.one aE ai ay a1 aq (a6.jv aR I b1 aM bw h1 bO ab ax au aX jo bG (X:=fun _ _=>False)) (fun x ak ⟨aa,ad⟩=>by subst aa;subst ad;exact h) (fun _ _ h=>h.elim)
theorem bf.gM (i:Nat) {g:Operand} {fv:ah} {fW:Array Operand} {cZ:Array TypeId} {xs:List ah} (aE:eP l.toArray m (idxs 0 l)=[i]) (ai:l.toArray[i]? = some o) (ay:o.dst=some d) (a1:z2 d N=true)
  (aq:c8 l env o) (b1:o.op = .call { callee := .value g,args:=fW,argTypes:=cZ }) (ar:aN (b2 l env o) g=some fv) (aO:fS (b2 l env o) fW.toList=some xs) (h:ds P fv xs K aeb) (I:Ok s L) (au:aJ L K R)
  (aA:∀ x aQ,aeb (.ret x) aQ→Ok s (aQ++R)→bf P Γ N l.toArray Q (bX (m|||2^i)) ((d,x)::env) (aU s (aQ++R))) (ab:∀ x aQ,aeb (.panic x) aQ→Ok s (aQ++R)→Q (.panic x) [] (aU s (aQ++R))):bf P Γ N l.toArray Q (bX m) env (aU s L):=
 bq.gM aE ai ay a1 aq b1 ar aO h I au (fun _ _ _ _ => .inl trivial) aA ab
end
section
variable {P:Program} {N:Nat} {ops:Array Oper} {Q:b3→Env→ao→Prop} {env:Env} {s:ao} {l:List Oper} {L R:bb}
theorem fI.uX {is:List Nat} (t b:Nat) {n cap:Nat} {T:TypeId} {cs:List ah} (aM:env.get? t=some (ee b n cap)) (au:s b=some (.box T cs)) (b9:cs.length=cap) (aB:n≤cap) (hm:n≤9223372036854775807) (iD:(cs.take n).all fb=true)
  (h:fI P N ops is Q ((t,.aG 1 (cs.take n) .bd)::env) (s.del b)):fI P N ops is Q env s:=by
 intro ro B a w p aK;obtain ⟨bh,hR,hle,aA⟩:=aK.uX aM au b9 aB hm iD;exact fI.after hle aA h hR
theorem ae.uX (I:Ok s L) (t b:Nat) {n cap:Nat} {T:TypeId} {cs:List ah} (aM:env.get? t=some (ee b n cap)) (au:bp L (.own b) (.box T cs) R) (b9:cs.length=cap) (aB:n≤cap) (hm:n≤9223372036854775807) (iD:(cs.take n).all fb=true)
  (h:Ok s R→ae P N ops l Q ((t,.aG 1 (cs.take n) .bd)::env) (aU s R)):ae P N ops l Q env (aU s L):=by
 obtain ⟨aa,ad⟩:=au.del I;intro k aA;refine fI.uX t b aM (au.get I) b9 aB hm iD ?_;rw [aa];exact h ad k aA
end
section
variable {P:Program} {Γ:cw} {N:Nat} {ops:Array Oper} {Q:b3→Env→ao→Prop} {env:Env} {s:ao} {l:List Oper} {o:Oper} {d:Nat} {L R:bb}
theorem a6.gF (aR:bR P Γ) {t e:TypeId} {x y:Operand} {it aH:bQ} {b n cap:Nat} {k:IntKind} {i:Int} {j:Nat} (ai:o.op = .indexAddr t x y) (aM:Γ.get? t=some it) (bw:it.bL = .aG e) (bO:Γ.get? e=some aH)
  (ab:aN env x=some (ee b n cap)) (ax:aN env y=some (.int k i)) (eJ:i=(j:Int)) (aI:j<n):a6 P N o env s (fun x ak=>x = .ptr b (j*aH.size)∧ak=s) (fun _ _=>False):=by
 refine a6.nI jd fun ro B a w p aK=>?_
 obtain ⟨info,d,aa,ad,aj,-⟩:=aR.parts aM;obtain ⟨jT,kB,cu,c2,fg,eG,-⟩:=aR.parts bO;have ay:d = .slice e:=by rw [bw] at aj;cases d<;>simp [en] at aj;rw [aj]
 subst ay;have aE:=aK.aN ab;have jb:=aK.aN ax;generalize eo:a.eval x=dN at aE;generalize fh:a.eval y=gb at jb;cases jb;subst eJ;cases aE;refine .same (val := .pointer (some ⟨b,j*aH.size,none⟩)) ?_ (.ptr b _);unfold execOp;rw [ai];simp only [eo,fh];refine gW ?_;have az:(0:Int)≤(j:Int)∧(j:Int)<(n:Int):=by omega
 simp [Instr.indexAt,asIntOf,run_underlying ad,az.2,sizeOf,typeInfo,cu,eG,lr];intro a7;omega
theorem Gz {w:World} {p:bU} {sz:Nat}:∀ {xss:List (List ah)} {us:List Value},bH w p us xss.flatten→(∀ cs∈xss,cs.length=sz)→∃ vs,bH w p vs (xss.map ah.agg)∧flat vs=us∧∀ v∈vs,v.cells.size=sz
  | [],us,h,_=>by cases h;exact ⟨[],.nil,rfl,by simp⟩
  | cs::r,us,h,aC=>by
    rw [List.flatten_cons] at h;have b9:=aC cs i6;have aa:=h.take cs.length;have ad:=h.drop cs.length;rw [List.take_left] at aa;rw [List.drop_left] at ad;obtain ⟨vs,g1,g2,g3⟩:=Gz ad fun x ab=>aC x (i0 _ ab)
    refine ⟨.agg (us.take cs.length).toArray::vs,.cons _ _ _ _ (.agg _ _ aa) g1,?_,fun v ar=>?_⟩
    · have:flat (Value.agg (us.take cs.length).toArray::vs)=us.take cs.length++flat vs:=by simp [flat,Value.cells]
      rw [this,g2,ah']
    · rcases ae8.1 ar with rfl|ar
      · have:=aa.length
        simp only [Value.cells,an4];rw [this,b9]
      · exact g3 v ar
theorem bq.gF {J:ao→Prop} (i:Nat) (aR:bR P Γ) (c9:J s) {m:Nat} {t e:TypeId} {x y:Operand} {it aH:bQ} {b n cap:Nat} {k:IntKind} {z:Int} {j:Nat} (aE:iG l.toArray m i=true) (aS:l.toArray[i]? = some o) (ay:o.dst=some d) (a1:z2 d N=true)
  (aq:c8 l env o) (ai:o.op = .indexAddr t x y) (aM:Γ.get? t=some it) (bw:it.bL = .aG e) (bO:Γ.get? e=some aH)
  (ab:aN (b2 l env o) x=some (ee b n cap)) (ax:aN (b2 l env o) y=some (.int k z)) (eJ:z=(j:Int)) (aI:j<n)
  (h:bq J P Γ N l.toArray Q (bX (m|||2^i)) ((d,.ptr b (j*aH.size))::env) s):bq J P Γ N l.toArray Q (bX m) env s:=
 bq.r7 c9 aE aS ay a1 aq (fun _ _=>a6.gF aR ai aM bw bO ab ax eJ aI) h
end
section
variable {P:Program} {Γ:cw} {N:Nat} {ops:Array Oper} {Q:b3→Env→ao→Prop} {env:Env} {s:ao} {l:List Oper} {o:Oper} {d:Nat}
theorem a6.tI (aR:bR P Γ) {t e:TypeId} {x:Operand} {it:bQ} {b n cap:Nat} (ai:o.op = .call { callee := .builtin .len,args := #[x],argTypes := #[t] }) (aM:Γ.get? t=some it) (bw:it.bL = .aG e) (ab:aN env x=some (ee b n cap)) :
  a6 P N o env s (fun x ak=>x = .int .i64 n∧ak=s) (fun _ _=>False):=by
 refine a6.nI jd fun ro B a w p aK=>?_
 obtain ⟨info,d,aa,ad,aj,-⟩:=aR.parts aM;have ay:d = .slice e:=by rw [bw] at aj;cases d<;>simp [en] at aj;rw [aj]
 subst ay;have aE:=aK.aN ab;generalize ar:a.eval x=dN at aE;cases aE;refine .same (val := .int .i64 n) ?_ (.int _ _);unfold execOp;rw [ai];simp [Go.resolve,Go.invoke,Go.builtin,aa',ae3,i7,ar,Builtin.len_,run_underlying ad,goInt]
theorem ae.tI (aR:bR P Γ) {t e:TypeId} {x:Operand} {it:bQ} {b n cap:Nat} (aq:guardOf ops env o=some true) (ay:o.dst=some d) (a1:z2 d N=true) (ai:o.op = .call { callee := .builtin .len,args := #[x],argTypes := #[t] }) (aM:Γ.get? t=some it) (bw:it.bL = .aG e) (ab:aN env x=some (ee b n cap))
  (h:ae P N ops l Q ((d,.int .i64 n)::env) s):ae P N ops (o::l) Q env s:=
 ae.op aq ay a1 (a6.tI aR ai aM bw ab) (fun x ak ⟨aa,ad⟩=>by subst aa;subst ad;exact h) (fun _ _ h=>h.elim)
theorem a6.AB (aR:bR P Γ) {t e:TypeId} {x y:Operand} {it aH:bQ} {b n cap k:Nat} {q2:IntKind} (ai:o.op = .slice t x none (some y) none) (aM:Γ.get? t=some it) (bw:it.bL = .aG e) (bO:Γ.get? e=some aH) (ab:aN env x=some (ee b n cap)) (ax:aN env y=some (.int q2 (k:Int))) (aA:k≤cap) :
  a6 P N o env s (fun x ak=>x=ee b k cap∧ak=s) (fun _ _=>False):=by
 refine a6.nI jd fun ro B a w p aK=>?_
 obtain ⟨info,d,aa,ad,aj,-⟩:=aR.parts aM;obtain ⟨jT,kB,cu,c2,fg,eG,-⟩:=aR.parts bO;have ay:d = .slice e:=by rw [bw] at aj;cases d<;>simp [en] at aj;rw [aj]
 subst ay;have aE:=aK.aN ab;have fl:=aK.aN ax;generalize eo:a.eval x=dN at aE;generalize fh:a.eval y=gb at fl;cases aE;cases fl;refine .same (val := .slice (some ⟨b,0,none⟩) k cap) ?_ (.hE _);unfold execOp;rw [ai];simp only [eo,at1,al',fh];refine gW ?_;have aB:(0:Int)≤(k:Int):=by omega
 have aD:(k:Int)≤(cap:Int):=by omega
 have an:(Instr.sliceBounds true n cap none (some (.int q2 (k:Int))) none).run P w = .ok (0,k,cap) w:=by
  simp [Instr.sliceBounds,run_sliceBound,aB,aD]
 simp only [Instr.sliceAt,Instr.slice,aa',run_underlying ad,i7,an,sizeOf,typeInfo,run_program,cu,ae3,eG,au',Nat.zero_mul];by_cases bo:cap=0
 ·simp [bo]
 ·simp [bo,lr]
theorem ae.AB (aR:bR P Γ) {t e:TypeId} {x y:Operand} {it aH:bQ} {b n cap:Nat} (k:Nat) {q2:IntKind} (aq:guardOf ops env o=some true) (ay:o.dst=some d) (a1:z2 d N=true) (ai:o.op = .slice t x none (some y) none) (aM:Γ.get? t=some it) (bw:it.bL = .aG e) (bO:Γ.get? e=some aH)
  (ab:aN env x=some (ee b n cap)) (ax:aN env y=some (.int q2 (k:Int))) (aA:k≤cap) (h:ae P N ops l Q ((d,ee b k cap)::env) s):ae P N ops (o::l) Q env s:=
 ae.op aq ay a1 (a6.AB aR ai aM bw bO ab ax aA) (fun x ak ⟨aa,ad⟩=>by subst aa;subst ad;exact h) (fun _ _ h=>h.elim)
theorem ae.gF (aR:bR P Γ) {t e:TypeId} {x y:Operand} {it aH:bQ} {b n cap:Nat} {k:IntKind} {i:Int} (j:Nat) (aq:guardOf ops env o=some true) (ay:o.dst=some d) (a1:z2 d N=true) (ai:o.op = .indexAddr t x y) (aM:Γ.get? t=some it) (bw:it.bL = .aG e) (bO:Γ.get? e=some aH)
  (ab:aN env x=some (ee b n cap)) (ax:aN env y=some (.int k i)) (eJ:i=(j:Int)) (aI:j<n) (h:ae P N ops l Q ((d,.ptr b (j*aH.size))::env) s):ae P N ops (o::l) Q env s:=
 ae.op aq ay a1 (a6.gF aR ai aM bw bO ab ax eJ aI) (fun x ak ⟨aa,ad⟩=>by subst aa;subst ad;exact h) (fun _ _ h=>h.elim)
end
theorem Ul {m n:Nat} (hm:m<2^64) (aB:n<2^64):m|||n<2^64:=aj0 hm aB
theorem Lg {m n:Nat} (hm:m<2^64):m &&& n<2^64:=ak3 av2 hm
def k6 (m n:Nat):Nat:=m &&& (18446744073709551615 ^^^ n)
theorem sd (m:Nat):aj9 64 (m:Int)=aA2 64 m:=by
 apply BitVec.eq_of_toNat_eq;rw [BitVec.toNat_ofInt,al2];omega
theorem wrap64 {m:Nat} (h:m<2^64):ac' .u64 (m:Int)=(m:Int):=by
 unfold ac';simp [am6,ay7];omega
section
variable {P:Program} {N:Nat} {ops:Array Oper} {Q:b3→Env→ao→Prop} {env:Env} {s:ao} {l:List Oper} {o:Oper} {d:Nat}
theorem a6.shl {t yt:TypeId} {x y:Operand} {k k':IntKind} {a b r:Int} (ai:o.op = .binOp .shl t x y yt) (ab:aN env x=some (.int k a)) (ax:aN env y=some (.int k' b)) (an:0≤b) (aE:k.wrap (a*2^(min b.toNat k.bits))=r) :
  a6 P N o env s (fun x ak=>x = .int k r∧ak=s) (fun _ _=>False):=by
 refine a6.nI jd fun ro B c1 w p aK=>?_
 have aa:=aK.aN ab;have ad:=aK.aN ax;generalize eo:c1.eval x=dN at aa;generalize fh:c1.eval y=gb at ad;cases aa;cases ad;refine uK (v := .int k r) ai ?_ ?_ (.int _ _)
 ·rw [eo,fh];unfold eqGuard;simp
 ·rw [eo,fh]
  have dU:¬ b<0:=by omega
  simp only [binOp,Op.shift,dU,ah9,aE];rfl
theorem a6.shr {t yt:TypeId} {x y:Operand} {k k':IntKind} {a b r:Int} (ai:o.op = .binOp .shr t x y yt) (ab:aN env x=some (.int k a)) (ax:aN env y=some (.int k' b)) (an:0≤b) (aE:a.fdiv (2^(min b.toNat k.bits))=r) :
  a6 P N o env s (fun x ak=>x = .int k r∧ak=s) (fun _ _=>False):=by
 refine a6.nI jd fun ro B c1 w p aK=>?_
 have aa:=aK.aN ab;have ad:=aK.aN ax;generalize eo:c1.eval x=dN at aa;generalize fh:c1.eval y=gb at ad;cases aa;cases ad;refine uK (v := .int k r) ai ?_ ?_ (.int _ _)
 ·rw [eo,fh];unfold eqGuard;simp
 ·rw [eo,fh]
  have dU:¬ b<0:=by omega
  simp only [binOp,Op.shift,dU,ah9,aE];rfl
def bitsOf (op:BinOp) (k:IntKind) (a b:Int):Option Int:=match op with
 | .and=>some (k.wrap (aj9 k.bits a &&& aj9 k.bits b).toNat)
 | .or=>some (k.wrap (aj9 k.bits a|||aj9 k.bits b).toNat)
 | .xor=>some (k.wrap (aj9 k.bits a ^^^ aj9 k.bits b).toNat)
 | .andNot=>some (k.wrap (aj9 k.bits a &&& ~~~(aj9 k.bits b)).toNat)
 | _=>none
theorem a6.bits {op:BinOp} {t yt:TypeId} {x y:Operand} {k:IntKind} {a b r:Int} (ai:o.op = .binOp op t x y yt) (ab:aN env x=some (.int k a)) (ax:aN env y=some (.int k b)) (aE:bitsOf op k a b=some r) :
  a6 P N o env s (fun x ak=>x = .int k r∧ak=s) (fun _ _=>False):=by
 refine a6.nI jd fun ro B c1 w p aK=>?_
 have aa:=aK.aN ab;have ad:=aK.aN ax;generalize eo:c1.eval x=dN at aa;generalize fh:c1.eval y=gb at ad;cases aa;cases ad;refine uK (v := .int k r) ai ?_ ?_ (.int _ _)
 ·rw [eo,fh];unfold eqGuard;cases op<;>first|rfl|(cases aE;done)
 ·rw [eo,fh]
  cases op<;>simp only [bitsOf] at aE<;>first|(cases aE;done)|(cases aE;simp only [binOp,ne_eq,not_true_eq_false,ah9,Op.intBits];rfl)
theorem ae.shl {t yt:TypeId} {x y:Operand} {k k':IntKind} {a b:Int} (r:Int) (aq:guardOf ops env o=some true) (ay:o.dst=some d) (a1:z2 d N=true) (ai:o.op = .binOp .shl t x y yt) (ab:aN env x=some (.int k a)) (ax:aN env y=some (.int k' b)) (an:0≤b) (aE:k.wrap (a*2^(min b.toNat k.bits))=r)
  (h:ae P N ops l Q ((d,.int k r)::env) s):ae P N ops (o::l) Q env s:=
 ae.op aq ay a1 (a6.shl ai ab ax an aE) (fun x ak ⟨aa,ad⟩=>by subst aa;subst ad;exact h) (fun _ _ h=>h.elim)
theorem ae.shr {t yt:TypeId} {x y:Operand} {k k':IntKind} {a b:Int} (r:Int) (aq:guardOf ops env o=some true) (ay:o.dst=some d) (a1:z2 d N=true) (ai:o.op = .binOp .shr t x y yt) (ab:aN env x=some (.int k a)) (ax:aN env y=some (.int k' b)) (an:0≤b) (aE:a.fdiv (2^(min b.toNat k.bits))=r)
  (h:ae P N ops l Q ((d,.int k r)::env) s):ae P N ops (o::l) Q env s:=
 ae.op aq ay a1 (a6.shr ai ab ax an aE) (fun x ak ⟨aa,ad⟩=>by subst aa;subst ad;exact h) (fun _ _ h=>h.elim)
theorem ae.bits {op:BinOp} {t yt:TypeId} {x y:Operand} {k:IntKind} {a b:Int} (r:Int) (aq:guardOf ops env o=some true) (ay:o.dst=some d) (a1:z2 d N=true) (ai:o.op = .binOp op t x y yt) (ab:aN env x=some (.int k a)) (ax:aN env y=some (.int k b)) (aE:bitsOf op k a b=some r)
  (h:ae P N ops l Q ((d,.int k r)::env) s):ae P N ops (o::l) Q env s:=
 ae.op aq ay a1 (a6.bits ai ab ax aE) (fun x ak ⟨aa,ad⟩=>by subst aa;subst ad;exact h) (fun _ _ h=>h.elim)
end
theorem wS {m n:Nat} (hm:m<2^64) (aB:n<2^64):bitsOf .or .u64 (m:Int) (n:Int)=some ((m|||n:Nat):Int):=by
 show some (ac' .u64 ((aj9 64 (m:Int)|||aj9 64 (n:Int)).toNat:Int))=_;rw [sd,sd,aB5,al2,al2,am2 hm,am2 aB,wrap64 (Ul hm aB)]
theorem uZ {m n:Nat} (hm:m<2^64) (aB:n<2^64):bitsOf .and .u64 (m:Int) (n:Int)=some ((m &&& n:Nat):Int):=by
 show some (ac' .u64 ((aj9 64 (m:Int) &&& aj9 64 (n:Int)).toNat:Int))=_;rw [sd,sd,ax6,al2,al2,am2 hm,am2 aB,wrap64 (Lg hm)]
theorem GA {m:Nat} (h:m<2^63):ac' .i64 (m:Int)=(m:Int):=by
 unfold ac';simp [am6,ay7];omega
theorem Um {m n:Nat} (hm:m<2^63) (aB:n<2^63):bitsOf .or .i64 (m:Int) (n:Int)=some ((m|||n:Nat):Int):=by
 show some (ac' .i64 ((aj9 64 (m:Int)|||aj9 64 (n:Int)).toNat:Int))=_;rw [sd,sd,aB5,al2,al2,am2 ag,am2 ag,GA (aj0 hm aB)]
theorem Dq {m n:Nat} (hm:m<2^63) (aB:n<2^63):bitsOf .and .i64 (m:Int) (n:Int)=some ((m &&& n:Nat):Int):=by
 show some (ac' .i64 ((aj9 64 (m:Int) &&& aj9 64 (n:Int)).toNat:Int))=_;rw [sd,sd,ax6,al2,al2,am2 ag,am2 ag,GA (ak3 av2 hm)]
theorem Dr {m n:Nat} (hm:m<2^64) (aB:n<2^64):bitsOf .andNot .u64 (m:Int) (n:Int)=some ((k6 m n:Nat):Int):=by
 show some (ac' .u64 ((aj9 64 (m:Int) &&& ~~~(aj9 64 (n:Int))).toNat:Int))=_;rw [sd,sd];unfold k6;have h:(aA2 64 m &&& ~~~(aA2 64 n)).toNat=m &&& (18446744073709551615 ^^^ n):=by
  rw [ax6,BitVec.toNat_not,al2,al2,am2 hm,am2 aB];apply an';intro i;rw [am0,am0,Nat.testBit_xor];have ad:2^64-1-n=2^64-(n+1):=by omega
  rw [ad,Nat.testBit_two_pow_sub_succ aB,show (18446744073709551615:Nat)=2^64-1 from rfl,ai1];by_cases aS:i<64
  ·simp [aS]
  ·have:m.testBit i=false:=Nat.testBit_lt_two_pow (aj7 hm (Nat.pow_le_pow_right ag ag))
   simp [this]
 rw [h,wrap64 (Lg hm)]
theorem Ds {c:Nat} (h:c<64):ac' .u64 (1*2^(min (c:Int).toNat (am6 .u64)))=((2^c:Nat):Int):=by
 have aa:min (c:Int).toNat (am6 .u64)=c:=by simp [am6];omega
 rw [aa];have ad:(1*2^c:Int)=((2^c:Nat):Int):=by push_cast;omega
 rw [ad,wrap64 (ai6 ag h)]
theorem u0 {m c:Nat} (h:c<64):Int.fdiv (m:Int) (2^(min (c:Int).toNat (am6 .u64)))=((m >>> c:Nat):Int):=by
 have aa:min (c:Int).toNat (am6 .u64)=c:=by simp [am6];omega
 rw [aa,Nat.shiftRight_eq_div_pow];have ad:(2^c:Int)=((2^c:Nat):Int):=by push_cast;rfl
 rw [ad,Int.fdiv_eq_ediv_of_nonneg _ (Int.natCast_nonneg _)];rfl
theorem af.ck {P:Program} {N:Nat} {Q:b3→Env→ao→Prop} {env:Env} {s:ao} {L:bb} {σ:Type} {c:Code} (gu:List Nat) {AD:Env} (aA:wN gu env []=(AD,())) (I:Ok s L) (dx:σ→Env) (K:σ→bb) (aeo:σ→Prop) (μ:σ→Nat) (oc:σ) {Ge:bb} (aw:aeo oc) (e0:Env.Sub (dx oc) env) (b8:aJ L (K oc) Ge)
  (round:∀ x,aeo x→Ok s (K x)→af P N c (b3.andThen (bD s (fun z=>dx z++AD) K aeo (fun y=>μ y<μ x)) Q) (dx x++AD) (aU s (K x))):af P N (.loop c) Q env (aU s L):=
 af.yp I (fun z=>dx z++AD) K aeo μ oc aw (e0.append (Al gu [] AD trivial aA)) b8 round
section
variable {P:Program} {Γ:cw} {N:Nat} {ops:Array Oper} {Q:b3→Env→ao→Prop} {env:Env} {s:ao} {l:List Oper} {o:Oper} {d:Nat}
theorem a6.arr (aR:bR P Γ) {t e:TypeId} {x y:Operand} {it aH:bQ} {k:IntKind} {len b off j:Nat} {i:Int} (ai:o.op = .indexAddr t x y) (aM:Γ.get? t=some it) (bw:it.bL = .arr len e) (bO:Γ.get? e=some aH) (ab:aN env x=some (.ptr b off)) (ax:aN env y=some (.int k i)) (eJ:i=(j:Int)) (aI:j<len) :
  a6 P N o env s (fun x ak=>x = .ptr b (off+j*aH.size)∧ak=s) (fun _ _=>False):=by
 obtain ⟨info,wT,aa,ad,aj,-⟩:=aR.parts aM;obtain ⟨jT,kB,cu,c2,fg,eG,-⟩:=aR.parts bO;obtain rfl:=zI (aj.trans bw);refine a6.nI jd fun ro B a w p aK=>?_
 have aa:=aK.aN ab;have oe:=aK.aN ax;generalize eo:a.eval x=dN at aa;generalize fh:a.eval y=gb at oe;cases aa;cases oe;subst eJ;refine .same (val := .pointer (some ⟨b,off+j*aH.size,none⟩)) ?_ (.ptr b _);unfold execOp;rw [ai];simp only [eo,fh];refine gW ?_;simp [Instr.indexAt,asIntOf,run_underlying ad,aI,sizeOf,typeInfo,cu,eG,lr,Instr.sureAddr]
theorem a6.l7 (aR:bR P Γ) {t e:TypeId} {x y:Operand} {it aH:bQ} {k:IntKind} {len off j:Nat} {cs:List ah} {i:Int} (ai:o.op = .indexAddr t x y) (aM:Γ.get? t=some it) (bw:it.bL = .arr len e) (bO:Γ.get? e=some aH) (ab:aN env x=some (.bA cs off)) (ax:aN env y=some (.int k i)) (eJ:i=(j:Int)) (aI:j<len) :
  a6 P N o env s (fun x ak=>x = .bA cs (off+j*aH.size)∧ak=s) (fun _ _=>False):=by
 obtain ⟨info,wT,aa,ad,aj,-⟩:=aR.parts aM;obtain ⟨jT,kB,cu,c2,fg,eG,-⟩:=aR.parts bO;obtain rfl:=zI (aj.trans bw);refine a6.nI jd fun ro B a w p aK=>?_
 have aa:=aK.aN ab;have oe:=aK.aN ax;generalize eo:a.eval x=dN at aa;generalize fh:a.eval y=gb at oe;cases oe;subst eJ;cases aa with
 | bA b base o' _ vs _ cz aD aE=>
 refine .same (val := .pointer (some ⟨b,o'+j*aH.size,none⟩)) ?_ (.bA b base _ _ vs cs ag aD aE);unfold execOp;rw [ai];simp only [eo,fh];refine gW ?_;simp [Instr.indexAt,asIntOf,run_underlying ad,aI,sizeOf,typeInfo,cu,eG,lr,Instr.sureAddr]
theorem ae.arr (aR:bR P Γ) {t e:TypeId} {x y:Operand} {it aH:bQ} {k:IntKind} {len b off:Nat} {i:Int} (j:Nat) (aq:guardOf ops env o=some true) (ay:o.dst=some d) (a1:z2 d N=true) (ai:o.op = .indexAddr t x y) (aM:Γ.get? t=some it) (bw:it.bL = .arr len e) (bO:Γ.get? e=some aH) (ab:aN env x=some (.ptr b off)) (ax:aN env y=some (.int k i)) (eJ:i=(j:Int)) (aI:j<len)
  (h:ae P N ops l Q ((d,.ptr b (off+j*aH.size))::env) s):ae P N ops (o::l) Q env s:=
 ae.op aq ay a1 (a6.arr aR ai aM bw bO ab ax eJ aI) (fun x ak ⟨aa,ad⟩=>by subst aa;subst ad;exact h) (fun _ _ h=>h.elim)
theorem ae.l7 (aR:bR P Γ) {t e:TypeId} {x y:Operand} {it aH:bQ} {k:IntKind} {len off:Nat} {cs:List ah} {i:Int} (j:Nat) (aq:guardOf ops env o=some true) (ay:o.dst=some d) (a1:z2 d N=true) (ai:o.op = .indexAddr t x y) (aM:Γ.get? t=some it) (bw:it.bL = .arr len e) (bO:Γ.get? e=some aH) (ab:aN env x=some (.bA cs off)) (ax:aN env y=some (.int k i)) (eJ:i=(j:Int)) (aI:j<len)
  (h:ae P N ops l Q ((d,.bA cs (off+j*aH.size))::env) s):ae P N ops (o::l) Q env s:=
 ae.op aq ay a1 (a6.l7 aR ai aM bw bO ab ax eJ aI) (fun x ak ⟨aa,ad⟩=>by subst aa;subst ad;exact h) (fun _ _ h=>h.elim)
end
def mH (first i:Int):List Int→List Int→Bool
 | _,[]=>true
 | seen,c::r=>decide (c≥first)&&(decide (c<first+i)&&(!seen.contains c&&mH first i (seen++[c]) r))
def oy:Nat→List (List Int)→Bool
 | _,[]=>true
 | i,l::r=>decide (l.length≤3)&&(mH 3 i [] l&&oy (i+1) r)
def mI (g:List (List Int)):Bool:=decide (g.length≤16)&&oy 0 g
def fu (n:Int) (l:List Int):List Int:=l.filter fun x=>x != n
def free (all:List (List Int)) (c:Int):Bool:=all.all fun l => !(l.drop 1).contains c
def pick (all:List (List Int)):List (List Int)→Option Int
 | []=>none
 | []::r=>pick all r
 | (c::_)::r=>if free all c then some c else pick all r
def total (all:List (List Int)):Nat:=(all.map List.length).sum
def merge:Nat→List (List Int)→List Int→List Int×Bool
  | 0,_,acc=>(acc,false)
  | k+1,all,acc=>match pick all all with
    | none=>(acc,all.all aq3)
    | some c=>merge k (all.map (fu c)) (acc++[c])
def merged (all:List (List Int)):List Int×Bool:=merge (total all+1) all []
def parents (g:List (List Int)) (c:Nat):List Int:=if c<3 then [] else g.getD (c-3) []
def iR (fE:List (List Int)):List Int→Option (List (List Int))
 | []=>some []
 | p::r=>if (fE.getD p.toNat []).isEmpty then none else (iR fE r).map fun l=>fu 0 (fE.getD p.toNat [])::l
def lists (g:List (List Int)) (fE:List (List Int)) (c:Nat):Option (List (List Int)):=(iR fE (parents g c)).map fun l=>l++[parents g c]
def order (g:List (List Int)) (fE:List (List Int)) (c:Nat):List Int:=match lists g fE c with
 | none=>[]
 | some all=>if (merged all).2 then (c:Int)::(merged all).1++[0] else []
def fE (g:List (List Int)):Nat→List (List Int)
 | 0=>[[0]]
 | k+1=>fE g k++[order g (fE g k) (k+1)]
theorem tJ (g:List (List Int)):∀ k,(fE g k).length=k+1
 | 0=>rfl
 | k+1=>by rw [fE,f9,tJ g k];rfl
theorem yv (n:Int) (l:List Int):(fu n l).length≤l.length:=aj8 ..
theorem Un (n:Int) (l:List Int):fu n (n::l)=fu n l:=by unfold fu;simp
theorem Uo (n:Int) (all:List (List Int)):total (all.map (fu n))≤total all:=by
 unfold total
 induction all with
 | nil=>exact g7 _
 | cons l r aW=>
  have:=yv n l;simp only [ae0,List.sum_cons] at aW ⊢;omega
theorem Dt {n:Int} {all:List (List Int)} (h:∃ t,n::t∈all):total (all.map (fu n))<total all:=by
 obtain ⟨t,h⟩:=h
 induction all with
 | nil=>cases h
 | cons l r aW=>
  have bo:total (l::r)=l.length+total r:=rfl;have aa:total ((l::r).map (fu n))=(fu n l).length+total (r.map (fu n)):=rfl;rw [bo,aa];rcases ae8.1 h with rfl|h
  ·have ad:=yv n t
   have aj:=Uo n r;rw [Un,i5];omega
  ·have:=aW h
   have:=yv n l;omega
theorem u1 {all:List (List Int)} {c:Int}:∀ {l:List (List Int)},pick all l=some c→∃ t,c::t∈l
  | [],h=>by cases h
  | []::r,h=>by
    obtain ⟨t,h⟩:=u1 (l:=r) h;exact ⟨t,i0 _ h⟩
  | (d::q)::r,h=>by
    rw [pick] at h;split at h
    · cases h;exact ⟨q,i6⟩
    · obtain ⟨t,h⟩:=u1 (l:=r) h
      exact ⟨t,i0 _ h⟩
structure bs where
 atom:Int
 no:Int
 yes:Int
 ms:List Int
 deriving DecidableEq,Inhabited
def lD:List Int→Bool
 | []=>true
 | [x]=>decide (x≥0)
 | x::y::r=>decide (x≥0)&&(decide (x<y)&&lD (y::r))
def iH (len i:Nat) (x:bs):Bool:=
 if x.atom = -1 then decide (x.no=0)&&(decide (x.yes=0)&&(decide (x.ms.length≤16)&&lD x.ms))
 else decide (x.atom≥0)&&(decide (x.atom<7)&&(decide (x.no>i)&&(decide (x.no<len)&&(decide (x.yes>i)&&(decide (x.yes<len)&&x.ms.isEmpty)))))
def ni (len:Nat):Nat→List bs→Bool
 | _,[]=>true
 | i,x::r=>iH len i x&&ni len (i+1) r
def fF (g:List bs):Bool:=decide (1≤g.length)&&(decide (g.length≤300)&&ni g.length 0 g)
def e4:Nat→List bs→List Int
 | _,[]=>[]
 | i,x::r=>
  let h:=e4 (i+1) r
  (if x.atom≥0 then 1+max (h.getD (x.no.toNat-(i+1)) 0) (h.getD (x.yes.toNat-(i+1)) 0) else 0)::h
def fi (g:List bs):Int:=(e4 0 g).getD 0 0
def l8 {α:Type} (f:Nat→α→Bool):Nat→List α→Option Nat
  | _,[]=>none
  | k,x::r=>match l8 f (k+1) r with
    | some j=>some j
    | none=>if f k x then some k else none
def bJ:Nat→List bs→List Int×List bs
 | _,[]=>([],[])
 | i,x::r=>
  let p:=bJ (i+1) r
  let y:bs:=if x.atom≥0 then { x with no:=p.1.getD (x.no.toNat-(i+1)) 0,yes:=p.1.getD (x.yes.toNat-(i+1)) 0 } else x
  let k:Int:=match l8 (fun k z=>p.1.getD k 0==((i+1+k:Nat):Int)&&z==y) 0 p.2 with
   | some k=>((i+1+k:Nat):Int)
   | none=>(i:Int)
  (k::p.1,y::p.2)
def meet (g:List bs):Nat→List Int→Int→List Int
 | 0,order,_=>order
 | k+1,order,eD=>
  if order.contains eD then order
  else
   let x:=g.getD eD.toNat default
   (if x.atom≥0 then meet g k (meet g k order x.yes) x.no else order)++[eD]
def placeOf (l:List Int) (n:Int):Int:=((l.findIdx? (· == n)).getD 0:Nat)
def small (g:List bs):List bs:=
 let p:=bJ 0 g
 let order:=meet p.2 (g.length+1) [] (p.1.getD 0 0)
 order.reverse.map fun eD=>
  let x:=p.2.getD eD.toNat default
  if x.atom≥0 then { x with no:=(order.length:Int)-1-placeOf order x.no,yes:=(order.length:Int)-1-placeOf order x.yes } else x
def bx:Nat:=1099511627776
theorem bE:bx=1099511627776:=rfl
theorem b7 {α:Type} {f:α→ah} {l:List α} {j:Nat} (h:j<l.length):∃ x,l[j]? = some x∧(l.map f)[j]? = some (f x):=
 ⟨l[j],d8 h,by simp [h]⟩
theorem drop_cons {α:Type} {l:List α} {j:Nat} {x:α} (h:l[j]? = some x):l.drop j=x::l.drop (j+1):=by
 obtain ⟨aa,ad⟩:=t7.1 h;rw [List.drop_eq_getElem_cons aa,ad]
theorem eE {α:Type} {l:List α} {j:Nat} (h:l.length≤j):l.drop j=[]:=List.drop_eq_nil_of_le h
theorem jy {α:Type} {l:List α} {j:Nat} {x:α} (h:l[j]? = some x):l.take (j+1)=l.take j++[x]:=by
 rw [List.take_add_one,h];rfl
theorem se {α:Type} {l:List α} {j:Nat} {x:α} (h:l[j]? = some x):j<l.length:=(t7.1 h).1
def bg (n:Int):ah := .int .i64 n
def bj (l:List Int):ah := .aG 1 (l.map bg) .bd
def dd (g:List (List Int)):ah := .aG 1 (g.map bj) .bd
theorem Lh (l:List Int) (n:Int) (aC:l.length<bx):aV d0 92 [bj l,.int .i64 n] (.int .i64 (match l.findIdx? (· == n) with
  | some i=>(i:Int)
  | none => -1)):=by
 have an:=bE;refine aV.bl al Tryz.func92 C C fun s I=>?_
 unfold bj;refine hp ?_;refine af.ck [0,1,7] C I (σ:=Nat) (fun j=>[(8,.int .i64 (j:Int))]) (fun _=>[]) (fun j=>j≤l.length∧∀ i,i<j→l[i]? ≠ some n) (fun j=>l.length-j) 0 ⟨g9 _,fun i aS=>absurd aS (an6 _)⟩ (cK C) ba ?_;rintro j ⟨aI,aw⟩ I;refine cf ?_;refine af.cond C (fun az=>?_) (fun a7=>?_);rotate_left;have a7:j=l.length:=by
  have:l.length≤j:=by simpa using a7
  omega
 ·have ab:l.findIdx? (· == n)=none:=by
   rw [ai0];intro z bG;obtain ⟨i,aS⟩:=af' bG;have aa:=se aS;have ad:=aw i ag;simp only [beq_eq_false_iff_ne];intro e;subst e;exact ad aS
  rw [ab];refine ew ?_;exact br I
 have az:j<l.length:=by simpa using az
 obtain ⟨y,ax,dc⟩:=b7 (f:=bg) az;unfold bg at dc;refine bK ?_;refine af.cond C (fun aB=>?_) (fun aB=>?_)
 ·have aB:n=y:=by simpa using aB
  subst aB;have ab:l.findIdx? (· == n)=some j:=by
   rw [ag9];refine ⟨az,by simpa using (t7.1 ax).2,fun i aS=>?_⟩;have:=aw i aS;rw [d8 ag] at this;simpa using this
  rw [ab];refine jK ?_;exact br I
 ·have aB:n≠y:=by simpa using aB
  refine fV ?_;refine bD.mk (j+1) I ⟨az,?_⟩ cA ba (by show l.length-(j+1)<l.length-j;omega);intro i aS;rcases ah7.1 aS with aS|rfl
  ·exact aw i aS
  ·rw [ax];intro e;cases e;exact aB C
theorem Li (l:List Int) (n:Int):decide ((match l.findIdx? (· == n) with
  | some i=>(i:Int)
  | none => -1)≥0)=l.contains n:=by
 cases h:l.findIdx? (· == n) with
 | none=>
  rw [ai0] at h;have:n∉l:=fun aB=>by have:=h n aB;simp at this
  simp [this]
 | some i=>
  rw [ag9] at h;obtain ⟨aS,aa,_⟩:=h;have e:l[i]=n:=by simpa using aa
  have:n∈l:=by rw [← e];exact aj4 aS
  simp [this]
theorem yw (l:List Int) (n:Int) (aC:l.length<bx):aV d0 43 [bj l,.int .i64 n] (.bool (l.contains n)):=by
 rw [← Li];refine aV.bl al Tryz.func43 C C fun s I=>?_
 refine dS ?_;refine ae.dL C C C C C (Lh l n aC) ?_;refine ep ?_;exact br I
theorem Lj (l:List Int) (n:Int) (aC:l.length<bx):aV d0 218 [bj l,.int .i64 n] (.bool (l.contains n)):=by
 have an:=bE;refine aV.bl al Tryz.func218 C C fun s I=>?_
 unfold bj;refine hp ?_;refine af.ck [0,1] C I (σ:=Nat) (fun j=>[(5,.int .i64 (j:Int))]) (fun _=>[]) (fun j=>j≤l.length∧∀ i,i<j→l[i]? ≠ some n) (fun j=>l.length-j) 0 ⟨g9 _,fun i aS=>absurd aS (an6 _)⟩ (cK C) ba ?_;rintro j ⟨aI,aw⟩ I;refine cf ?_;refine af.cond C (fun az=>?_) (fun a7=>?_);rotate_left;have a7:j=l.length:=by
  have:l.length≤j:=by simpa using a7
  omega
 ·have ab:l.contains n=false:=by
   rw [af3];intro hm;have hm:n∈l:=by simpa using hm
   obtain ⟨i,aS⟩:=af' hm;exact aw i (by have:=se aS;omega) aS
  rw [ab];refine ew ?_;exact br I
 have az:j<l.length:=by simpa using az
 obtain ⟨y,ax,dc⟩:=b7 (f:=bg) az;unfold bg at dc;refine eh ?_;refine af.cond C (fun aB=>?_) (fun aB=>?_)
 ·have aB:y=n:=by simpa using aB
  subst aB;have ab:l.contains y=true:=by simpa using d6 ax
  rw [ab];refine jK ?_;exact br I
 ·have aB:y≠n:=by simpa using aB
  refine fV ?_;refine bD.mk (j+1) I ⟨az,?_⟩ cA ba (by show l.length-(j+1)<l.length-j;omega);intro i aS;rcases ah7.1 aS with aS|rfl
  ·exact aw i aS
  ·rw [ax];intro e;cases e;exact aB C
theorem wU (a b:List Int) (aC:a.length<bx) (wV:b.length<bx):aV d0 37 [bj a,bj b] (.bool (a==b)):=by
 have an:=bE;refine aV.bl al Tryz.func37 C C fun s I=>?_
 unfold bj;refine cf ?_;refine af.cond C (fun h=>?_) (fun h=>?_)
 ·have cP:(a==b)=false:=by
   rw [beq_eq_false_iff_ne];intro e;simp [e] at h
  rw [cP];refine gE ?_;exact br I
 ·have eQ:a.length=b.length:=by simp at h;omega
  refine jL ?_;refine af.ck [0,1,12] C I (σ:=Nat) (fun j=>[(13,.int .i64 (j:Int))]) (fun _=>[]) (fun j=>j≤a.length∧(a==b)=(a.drop j==b.drop j)) (fun j=>a.length-j) 0 ⟨g9 _,rfl⟩ (cK C) ba ?_;rintro j ⟨aI,aw⟩ I;refine cf ?_;refine af.cond C (fun az=>?_) (fun a7=>?_);rotate_left;have a7:j=a.length:=by
   have:a.length≤j:=by simpa using a7
   omega
  ·rw [eE ag,eE ag] at aw
   rw [aw];refine ew ?_;exact br I
  have az:j<a.length:=by simpa using az
  obtain ⟨x,ab,ch⟩:=b7 (f:=bg) az;obtain ⟨y,ax,dc⟩:=b7 (f:=bg) (by omega:j<b.length);rw [drop_cons ab,drop_cons ax,aw2] at aw;refine jL ?_;refine af.r6 al mixed C (bf.run C ?_);refine bf.idx 2 j C C C C C C C C C C C C C ch C ?_;refine bf.idx 6 j C C C C C C C C C C C C C dc C ?_;refine bf.run C (bf.done C ?_);refine af.cond C (fun aB=>?_) (fun aB=>?_)
  ·have aB:x≠y:=by simpa using aB
   rw [aw,beq_false_of_ne aB];refine jK ?_;exact br I
  ·have aB:x=y:=by simpa using aB
   subst aB;rw [beq_self_eq_true,f5] at aw;refine fV ?_;refine bD.mk (j+1) I ⟨az,aw⟩ cA ba Au
theorem Du (a b:List Int) (aC:a.length<bx) (wV:b.length<bx):aV d0 24 [bj a,bj b] (.bool (a==b)):=by
 have an:=bE;refine aV.bl al Tryz.func24 C C fun s I=>?_
 unfold bj;refine cf ?_;refine af.cond C (fun h=>?_) (fun h=>?_)
 ·have cP:(a==b)=false:=by
   rw [beq_eq_false_iff_ne];intro e;simp [e] at h
  rw [cP];refine gE ?_;exact br I
 ·have eQ:a.length=b.length:=by simp at h;omega
  refine jL ?_;refine af.ck [0,1,12] C I (σ:=Nat) (fun j=>[(13,.int .i64 (j:Int))]) (fun _=>[]) (fun j=>j≤a.length∧(a==b)=(a.drop j==b.drop j)) (fun j=>a.length-j) 0 ⟨g9 _,rfl⟩ (cK C) ba ?_;rintro j ⟨aI,aw⟩ I;refine cf ?_;refine af.cond C (fun az=>?_) (fun a7=>?_);rotate_left;have a7:j=a.length:=by
   have:a.length≤j:=by simpa using a7
   omega
  ·rw [eE ag,eE ag] at aw
   rw [aw];refine ew ?_;exact br I
  have az:j<a.length:=by simpa using az
  obtain ⟨x,ab,ch⟩:=b7 (f:=bg) az;obtain ⟨y,ax,dc⟩:=b7 (f:=bg) (by omega:j<b.length);rw [drop_cons ab,drop_cons ax,aw2] at aw;refine jL ?_;refine af.r6 al mixed C (bf.run C ?_);refine bf.idx 2 j C C C C C C C C C C C C C ch C ?_;refine bf.idx 6 j C C C C C C C C C C C C C dc C ?_;refine bf.run C (bf.done C ?_);refine af.cond C (fun aB=>?_) (fun aB=>?_)
  ·have aB:x≠y:=by simpa using aB
   rw [aw,beq_false_of_ne aB];refine jK ?_;exact br I
  ·have aB:x=y:=by simpa using aB
   subst aB;rw [beq_self_eq_true,f5] at aw;refine fV ?_;refine bD.mk (j+1) I ⟨az,aw⟩ cA ba Au
theorem Lk {α:Type} (q:α→Bool) {l:List α} {j:Nat} {x:α} (h:l[j]? = some x):(l.take (j+1)).filter q=(l.take j).filter q++(if q x then [x] else []):=by
 rw [jy h,List.filter_append];congr 1;cases bn:q x<;>simp [bn]
theorem Ll (fv:ah) (q:Int→Bool) (bn:∀ y,ej d0 fv [.int .i64 y] (.bool (q y))) (l:List Int) (aC:l.length<bx):aV d0 307 [bj l,fv] (bj (l.filter q)):=by
 have an:=bE;obtain ⟨xs,d'⟩:∃ xs:Nat→List ah,∀ j,xs j=((l.take j).filter q).map bg:=⟨_,fun _=>rfl⟩;have bo:xs 0=[]:=by rw [d'];rfl
 have hH:∀ j,(xs j).length≤l.length:=fun j=>by
  rw [d',f8];exact an0 (aj8 _ _) (ak' _ _)
 refine aV.bl al Tryz.func307 C C fun s I=>?_
 unfold bj;refine hp ?_;refine af.jw I 3 1 0 fun I=>?_
 refine af.ck [1,8,9] C I (σ:=Nat×bV) (fun q=>[(10,.int .i64 (q.1:Int)),(5,.aG 1 (xs q.1) q.2)]) (fun q=>[(q.2,.row 3 1 (xs q.1).length)]) (fun q=>q.1≤l.length) (fun q=>l.length-q.1) (0,.nil) (g9 _) ⟨⟨_,rfl,aT⟩,⟨_,rfl,by rw [bo];exact aZ.nil h4⟩,trivial⟩ (by rw [bo];exact aJ.eb _) ?_;rintro ⟨j,own⟩ aI I;simp only at aI I ⊢;refine cf ?_;refine af.cond C (fun az=>?_) (fun a7=>?_);rotate_left;have a7:j=l.length:=by
  have:l.length≤j:=by simpa using a7
  omega
 ·subst a7
  have he:xs l.length=(l.filter q).map bg:=by rw [d',af1]
  rw [he];refine ew ?_;exact Fin.cE I C aZ.bd
 have az:j<l.length:=by simpa using az
 obtain ⟨y,ax,dc⟩:=b7 (f:=bg) az;have au:=d' (j+1);rw [Lk q ax,ae1,← d'] at au;have lV:=hH j;have Up:=bn y;unfold bg at dc;refine eh ?_;refine ae.l2 C C C C C C Up ?_;cases ar:q y with
 | true=>
  have au:xs (j+1)=xs j++[.int .i64 y]:=by rw [au,ar];rfl
  have db:(xs (j+1)).length=(xs j).length+1:=by rw [au];simp
  refine bK ?_;refine ae.ho al I C C C C C C C eH C C C C C C C C a' ir lC ag (fun bT I=>?_);refine hC ?_;refine bD.mk (j+1,.own bT) I az ow (by show aJ _ [(_,.row _ _ (xs (j+1)).length)] _;rw [db];exact aJ.eb _) (by show l.length-(j+1)<l.length-j;omega)
 | false=>
  have au:xs (j+1)=xs j:=by rw [au,ar];simp
  refine bK ?_;refine bD.mk (j+1,own) I az ow (by show aJ _ [(_,.row _ _ (xs (j+1)).length)] _;rw [au];exact aJ.eb _) (by show l.length-(j+1)<l.length-j;omega)
theorem Uq (y:Int):ej d0 (.func 316 [] []) [.int .i64 y] (.bool (y != 0)):=by
 refine ej.fm (first:=[]) (cap:=[]) ?_;refine aV.bl al Tryz.func316 C C fun s I=>?_
 refine gE ?_;exact br I
theorem Ur (l:List Int) (aC:l.length<bx):aV d0 306 [bj l] (bj (fu 0 l)):=by
 refine aV.bl al Tryz.func306 C C fun s I=>?_
 refine dS ?_;refine ae.dL C C C C C (Ll _ _ Uq l aC) ?_;refine ep ?_;exact br I
theorem GB (l:List Int) (n:Int) (aC:l.length<bx):aV d0 272 [bj l,.int .i64 n] (bj (fu n l)):=by
 have an:=bE;obtain ⟨xs,d'⟩:∃ xs:Nat→List ah,∀ j,xs j=(fu n (l.take j)).map bg:=⟨_,fun _=>rfl⟩;have bo:xs 0=[]:=by rw [d'];rfl
 have hH:∀ j,(xs j).length≤l.length:=fun j=>by
  rw [d',f8];exact an0 (yv _ _) (ak' _ _)
 refine aV.bl al Tryz.func272 C C fun s I=>?_
 unfold bj;refine hp ?_;refine af.jw I 3 1 0 fun I=>?_
 refine af.ck [0,1] C I (σ:=Nat×bV) (fun q=>[(6,.int .i64 (q.1:Int)),(5,.aG 1 (xs q.1) q.2)]) (fun q=>[(q.2,.row 3 1 (xs q.1).length)]) (fun q=>q.1≤l.length) (fun q=>l.length-q.1) (0,.nil) (g9 _) ⟨⟨_,rfl,aT⟩,⟨_,rfl,by rw [bo];exact aZ.nil h4⟩,trivial⟩ (by rw [bo];exact aJ.eb _) ?_;rintro ⟨j,own⟩ aI I;simp only at aI I ⊢;refine cf ?_;refine af.cond C (fun az=>?_) (fun a7=>?_);rotate_left;have a7:j=l.length:=by
  have:l.length≤j:=by simpa using a7
  omega
 ·subst a7
  have he:xs l.length=(fu n l).map bg:=by rw [d',af1]
  rw [he];refine ew ?_;exact Fin.cE I C aZ.bd
 have az:j<l.length:=by simpa using az
 obtain ⟨y,ax,dc⟩:=b7 (f:=bg) az;have au:=d' (j+1);unfold fu at au;rw [Lk _ ax,ae1] at au;have au:xs (j+1)=xs j++List.map bg (if y != n then [y] else []):=by rw [au,d'];rfl
 have lV:=hH j;unfold bg at dc;refine eh ?_;refine af.cond C (fun ar=>?_) (fun ar=>?_)
 ·have ar:(y != n)=true:=by simpa using ar
  have au:xs (j+1)=xs j++[.int .i64 y]:=by rw [au,ar];rfl
  have db:(xs (j+1)).length=(xs j).length+1:=by rw [au];simp
  refine eh ?_;refine ae.ho al I C C C C C C C eH C C C C C C C C a' ir lC ag (fun bT I=>?_);refine hC ?_;refine bD.mk (j+1,.own bT) I az ow (by show aJ _ [(_,.row _ _ (xs (j+1)).length)] _;rw [db];exact aJ.eb _) (by show l.length-(j+1)<l.length-j;omega)
 ·have ar:(y != n)=false:=by simpa using ar
  have au:xs (j+1)=xs j:=by rw [au,ar];simp
  refine fV ?_;refine bD.mk (j+1,own) I az ow (by show aJ _ [(_,.row _ _ (xs (j+1)).length)] _;rw [au];exact aJ.eb _) (by show l.length-(j+1)<l.length-j;omega)
theorem Lm (g:List (List Int)) (aq:g.length<bx):aV d0 274 [dd g] (.bool (mI g)):=by
 have an:=bE;refine aV.bl al Tryz.func274 C C fun s I=>?_
 unfold dd;unfold mI;refine cf ?_;refine af.cond C (fun h=>?_) (fun h=>?_)
 ·have aa:decide (g.length≤16)=false:=by simp at h ⊢;omega
  rw [aa];refine gE ?_;exact br I
 have aa:decide (g.length≤16)=true:=by simp at h ⊢;omega
 have od:g.length≤16:=aj1 aa;rw [aa,f5];refine jL ?_;refine af.ck [10,11] C I (σ:=Nat) (fun j=>[(12,.int .i64 (j:Int))]) (fun _=>[]) (fun j=>j≤g.length∧oy 0 g=oy j (g.drop j)) (fun j=>g.length-j) 0 ⟨g9 _,rfl⟩ (cK C) ba ?_;rintro j ⟨aI,aw⟩ I;refine cf ?_;refine af.cond C (fun az=>?_) (fun a7=>?_);rotate_left;have a7:j=g.length:=by
  have:g.length≤j:=by simpa using a7
  omega
 ·rw [eE ag,oy] at aw
  rw [aw];refine ew ?_;exact br I
 have az:j<g.length:=by simpa using az
 obtain ⟨l,ax,dc⟩:=b7 (f:=bj) az;rw [drop_cons ax,oy] at aw;unfold bj at dc;refine bK ?_;refine af.cond C (fun h=>?_) (fun h=>?_)
 ·have ad:decide (l.length≤3)=false:=by simp at h ⊢;omega
  rw [aw,ad];refine jK ?_;exact br I
 have ad:decide (l.length≤3)=true:=by simp at h ⊢;omega
 have oe:l.length≤3:=aj1 ad;rw [ad,f5] at aw;refine jL ?_;refine af.ck [3,4,10,11,12,20,21] C I (σ:=Nat) (fun k=>[(22,.int .i64 (k:Int))]) (fun _=>[]) (fun k=>k≤l.length∧mH 3 j [] l=mH 3 j (l.take k) (l.drop k)) (fun k=>l.length-k) 0 ⟨g9 _,rfl⟩ (cK C) ba ?_;rintro k ⟨aA,bk⟩ I;refine cf ?_;refine af.cond C (fun cT=>?_) (fun ef=>?_);rotate_left
 ·have ef:l.length≤k:=by simpa using ef
  rw [eE ef,mH] at bk;rw [bk,f5] at aw;refine bK ?_;refine bD.mk (j+1) I ⟨az,aw⟩ cA ba uU
 have cT:k<l.length:=by simpa using cT
 obtain ⟨c,aD,nj⟩:=b7 (f:=bg) cT;rw [drop_cons aD,mH] at bk;rw [bk] at aw;unfold bg at nj;have w:ac' .i64 (3+(j:Int))=3+(j:Int):=ev ag ag;refine eh ?_;by_cases aj:c<3
 ·rw [i8 (show ¬ c≥3 by omega),f6,f6] at aw
  refine ae.dK 29 C (g8 aj) ?_;refine fe ?_;rw [aw];exact br I
 rw [g8 (show c≥3 by omega),f5] at aw bk;refine ae.dh 29 C (i8 aj) ?_;refine er ?_;by_cases a8:c≥3+(j:Int)
 ·rw [i8 (show ¬ c<3+(j:Int) by omega),f6] at aw
  refine ae.dK 35 C (by rw [w];exact g8 a8) ?_;refine fe ?_;rw [aw];exact br I
 rw [g8 (show c<3+(j:Int) by omega),f5] at aw bk;refine ae.dh 35 C (by rw [w];exact i8 a8) ?_;have ie:=yw (l.take k) c (by have:=ak' k l;omega);unfold bj at ie;rw [as8] at ie;refine er ?_;refine ae.slice al 0 k C C C C C C C C (.inr C) (.inl ⟨rfl,rfl⟩) (.inr ⟨_,_,rfl,rfl⟩) (.inl ⟨rfl,rfl⟩) (g9 _) (by simpa using aA) ?_;rw [an2];refine er ?_;refine ae.dL C C C C C ie ?_;cases bB:(l.take k).contains c with
 | true=>
  rw [bB,aj',f6] at aw;refine fe ?_;rw [aw];exact br I
 | false=>
  rw [bB,aj6,f5,← jy aD] at aw bk;refine bK ?_;exact bD.mk (k+1) I ⟨cT,by rw [bk]⟩ cA ba (by show l.length-(k+1)<l.length-k;omega)
theorem Us (g:List (List Int)) (aq:g.length<bx):aV d0 180 [dd g] (.bool (mI g)):=by
 have an:=bE;refine aV.bl al Tryz.func180 C C fun s I=>?_
 unfold dd;unfold mI;refine cf ?_;refine af.cond C (fun h=>?_) (fun h=>?_)
 ·have aa:decide (g.length≤16)=false:=by simp at h ⊢;omega
  rw [aa];refine gE ?_;exact br I
 have aa:decide (g.length≤16)=true:=by simp at h ⊢;omega
 have od:g.length≤16:=aj1 aa;rw [aa,f5];refine jL ?_;refine af.ck [0] C I (σ:=Nat) (fun j=>[(3,.int .i64 (j:Int))]) (fun _=>[]) (fun j=>j≤g.length∧oy 0 g=oy j (g.drop j)) (fun j=>g.length-j) 0 ⟨g9 _,rfl⟩ (cK C) ba ?_;rintro j ⟨aI,aw⟩ I;refine cf ?_;refine af.cond C (fun az=>?_) (fun a7=>?_);rotate_left;have a7:j=g.length:=by
  have:g.length≤j:=by simpa using a7
  omega
 ·rw [eE ag,oy] at aw
  rw [aw];refine ew ?_;exact br I
 have az:j<g.length:=by simpa using az
 obtain ⟨l,ax,dc⟩:=b7 (f:=bj) az;rw [drop_cons ax,oy] at aw;unfold bj at dc;refine eh ?_;refine af.cond C (fun h=>?_) (fun h=>?_)
 ·have ad:decide (l.length≤3)=false:=by simp at h ⊢;omega
  rw [aw,ad];refine jK ?_;exact br I
 have ad:decide (l.length≤3)=true:=by simp at h ⊢;omega
 have oe:l.length≤3:=aj1 ad;rw [ad,f5] at aw;refine jL ?_;refine af.ck [0,3] C I (σ:=Nat) (fun k=>[(4,.int .i64 (k:Int))]) (fun _=>[]) (fun k=>k≤l.length∧mH 3 j [] l=mH 3 j (l.take k) (l.drop k)) (fun k=>l.length-k) 0 ⟨g9 _,rfl⟩ (cK C) ba ?_;rintro k ⟨aA,bk⟩ I;refine eh ?_;refine af.cond C (fun cT=>?_) (fun ef=>?_);rotate_left
 ·have ef:l.length≤k:=by simpa using ef
  rw [eE ef,mH] at bk;rw [bk,f5] at aw;refine bK ?_;refine bD.mk (j+1) I ⟨az,aw⟩ cA ba uU
 have cT:k<l.length:=by simpa using cT
 obtain ⟨c,aD,nj⟩:=b7 (f:=bg) cT;rw [drop_cons aD,mH] at bk;rw [bk] at aw;have ie:=Lj (l.take k) c (by have:=ak' k l;omega);unfold bj at ie;rw [as8] at ie;unfold bg at nj;have w:ac' .i64 (3+(j:Int))=3+(j:Int):=ev ag ag;refine jL ?_;refine af.r6 al mixed C (bf.runs (is:=[0,1,4]) C ?_);refine bf.idx 2 j C C C C C C C C C C C C C dc C ?_;refine bf.runs (is:=[3]) C ?_;refine bf.idx 5 k C C C C C C C C C C C C C nj C ?_;refine bf.runs (is:=[6,7,8]) C ?_;by_cases aj:c<3
 ·rw [i8 (show ¬ c≥3 by omega),f6,f6] at aw
  refine bf.dK 37 C (g8 aj) ?_;refine bf.run C (bf.done C ?_);refine fe ?_;rw [aw];exact br I
 rw [g8 (show c≥3 by omega),f5] at aw bk;refine bf.dh 37 C (i8 aj) ?_;refine bf.runs (is:=[9,10,13,16,17]) C ?_;refine bf.idx 11 j C C C C C C C C C C C C C dc C ?_;refine bf.runs (is:=[12]) C ?_;refine bf.idx 14 k C C C C C C C C C C C C C nj C ?_;refine bf.runs (is:=[15,18,19,20]) C ?_;by_cases a8:c≥3+(j:Int)
 ·rw [i8 (show ¬ c<3+(j:Int) by omega),f6] at aw
  refine bf.dK 49 C (by rw [w];exact g8 a8) ?_;refine bf.run C (bf.done C ?_);refine fe ?_;rw [aw];exact br I
 rw [g8 (show c<3+(j:Int) by omega),f5] at aw bk;refine bf.dh 49 C (by rw [w];exact i8 a8) ?_;refine bf.run C ?_;refine bf.idx 23 j C C C C C C C C C C C C C dc C ?_;refine bf.idx 29 j C C C C C C C C C C C C C dc C ?_;refine bf.run C ?_;refine bf.idx 32 k C C C C C C C C C C C C C nj C ?_;refine bf.slice 26 0 k C C C C C C C C C C (.inr C) (.inl ⟨rfl,rfl⟩) (.inr ⟨_,_,rfl,rfl⟩) (.inl ⟨rfl,rfl⟩) (g9 _) (by simpa using aA) ?_;rw [an2];refine bf.run C ?_;refine bf.Dg (i:=34) C C C C C C C ie ?_;refine bf.run C ?_;refine bf.done C ?_;cases bB:(l.take k).contains c with
 | true=>
  rw [bB,aj',f6] at aw;refine fe ?_;rw [aw];exact br I
 | false=>
  rw [bB,aj6,f5,← jy aD] at aw bk;refine bK ?_;exact bD.mk (k+1) I ⟨cT,by rw [bk]⟩ cA ba (by show l.length-(k+1)<l.length-k;omega)
theorem Ut (all:List (List Int)) (c:Int) (aC:all.length<bx) (aO:∀ l∈all,l.length<bx):aV d0 273 [dd all,.int .i64 c] (.bool (free all c)):=by
 have an:=bE;refine aV.bl al Tryz.func273 C C fun s I=>?_
 unfold dd;refine hp ?_;refine af.ck [0,1] C I (σ:=Nat) (fun j=>[(5,.int .i64 (j:Int))]) (fun _=>[]) (fun j=>j≤all.length∧free all c=free (all.drop j) c) (fun j=>all.length-j) 0 ⟨g9 _,rfl⟩ (cK C) ba ?_;rintro j ⟨aI,aw⟩ I;refine cf ?_;refine af.cond C (fun az=>?_) (fun a7=>?_);rotate_left;have a7:j=all.length:=by
  have:all.length≤j:=by simpa using a7
  omega
 ·rw [eE ag] at aw
  rw [aw];refine ew ?_;exact br I
 have az:j<all.length:=by simpa using az
 obtain ⟨l,ax,dc⟩:=b7 (f:=bj) az;rw [drop_cons ax] at aw;have q3:=aO l (d6 ax);have aw:free all c=(!(l.drop 1).contains c&&free (all.drop (j+1)) c):=aw;have ie:=Lj (l.drop 1) c cL;unfold bj at ie dc;rw [List.map_drop] at ie;refine eh ?_;cases l with
 | nil=>
  refine ae.dh 18 C C ?_;refine bK ?_;refine bD.mk (j+1) I ⟨az,aw⟩ cA ba (by show all.length-(j+1)<all.length-j;omega)
 | cons x r=>
  refine ae.dK 18 C bc ?_;refine eh ?_;refine ae.slice al 1 ((x::r).map bg).length C C C C C C C C (.inr C) (.inr ⟨_,_,rfl,rfl⟩) (.inl ⟨rfl,rfl,rfl⟩) (.inl ⟨rfl,rfl⟩) bc (g7 _) ?_;rw [af1];refine er ?_;refine ae.dL C C C C C ie ?_;cases bB:((x::r).drop 1).contains c with
  | true=>
   rw [bB,aj',f6] at aw;rw [aw];refine fe ?_;exact br I
  | false=>
   rw [bB,aj6,f5] at aw;refine bK ?_;refine bD.mk (j+1) I ⟨az,aw⟩ cA ba (by show all.length-(j+1)<all.length-j;omega)
structure q4 (n b:Nat) (all:List (List Int)):Prop where
 len:all.length≤n
 each:∀ l∈all,l.length≤b∧∀ c∈l,0≤c
theorem q4.fu {n b:Nat} {all:List (List Int)} (h:q4 n b all) (c:Int):q4 n b (all.map (fu c)):=by
 refine ⟨by rw [f8];exact h.len,fun l aC=>?_⟩;obtain ⟨lA,aa,rfl⟩:=af8.1 aC;obtain ⟨ad,aj⟩:=h.each lA aa;exact ⟨an0 (yv _ _) ad,fun c aD=>aj c (ag3.1 aD).1⟩
theorem Dv {n b:Nat} {all:List (List Int)} (h:q4 n b all):total all≤n*b:=by
 obtain ⟨aa,ad⟩:=h;have:total all≤all.length*b:=by
  clear aa
  induction all with
  | nil=>simp [total]
  | cons l r aW=>
   have aj:=(ad l i6).1;have a8:=aW (fun x ab=>ad x (i0 _ ab));have bB:total (l::r)=l.length+total r:=rfl;rw [bB,i5,Nat.add_mul];omega
 exact an0 this (am9 _ aa)
theorem Ln {all l:List (List Int)} {j:Nat} (h:l[j]? = some []):pick all (l.drop j)=pick all (l.drop (j+1)):=by
 rw [drop_cons h];rfl
theorem Lo {all l:List (List Int)} {j:Nat} {c:Int} {r:List Int} (h:l[j]? = some (c::r)):pick all (l.drop j)=if free all c then some c else pick all (l.drop (j+1)):=by
 rw [drop_cons h];rfl
theorem Uu (n b:Nat) (jc:n<1000∧b<1000) (all:List (List Int)) (hm:q4 n b all):aV d0 252 [dd all] (.cr [bj (merged all).1,.bool (merged all).2]):=by
 have an:=bE;refine aV.bl al Tryz.func252 C C fun s I=>?_
 unfold dd;have yx:total all≤n*b:=Dv hm;have Uv:n*b≤1000*1000:=Nat.mul_le_mul ag ag;refine hp ?_;refine af.jw I 3 1 0 fun I=>?_
 refine af.ck [] C I (σ:=Nat×List (List Int)×List Int×bV) (fun q=>[(0,.aG 1 (q.2.1.map bj) .bd),(4,.aG 1 (q.2.2.1.map bg) q.2.2.2)]) (fun q=>[(q.2.2.2,.row 3 1 q.2.2.1.length)])
  (fun q=>merge q.1 q.2.1 q.2.2.1=merged all∧total q.2.1<q.1∧q4 n b q.2.1∧q.2.2.1.length+total q.2.1≤total all) (fun q=>q.1) (total all+1,all,[],.nil) ⟨rfl,Nat.lt_succ_self _,hm,by simp⟩ ⟨⟨_,rfl,aT⟩,⟨_,rfl,aZ.nil h4⟩,trivial⟩ (aJ.eb _) ?_
 rintro ⟨k,cur,acc,own⟩ ⟨dW,hL,hm,uN⟩ I;simp only at dW hL hm uN I ⊢;have b9:=hm.len;refine hp ?_;refine af.ck [0,4] C I (σ:=Nat×Int×Bool) (fun z=>[(5,.int .i64 z.2.1),(6,.bool z.2.2),(7,.int .i64 (z.1:Int))]) (fun _=>[(own,.row 3 1 acc.length)])
  (fun z=>z.1≤cur.length∧((z.2.1 = -1∧pick cur cur=pick cur (cur.drop z.1)∧(!z.2.2)=(cur.take z.1).all aq3)∨(0≤z.2.1∧pick cur cur=some z.2.1))) (fun z=>cur.length-z.1+if z.2.1<0 then 1 else 0) (0,-1,false) ⟨g9 _,.inl ⟨rfl,rfl,rfl⟩⟩ (cK C) (aJ.eb _) ?_
 rintro ⟨j,gC,GC⟩ ⟨aI,aw⟩ I;simp only at aI aw I ⊢;refine kG ?_;by_cases az:j<cur.length
 ·refine ae.dK 14 C (by simpa using az) ?_
  refine gj ?_;refine af.cond C (fun aB=>?_) (fun aB=>?_)
  ·have aB:gC<0:=aj1 aB
   obtain ⟨rfl,aw,hr⟩:gC = -1∧_:=by
    rcases aw with h|h
    ·exact h
    ·omega
   obtain ⟨l,ax,dc⟩:=b7 (f:=bj) az;have Lp:=hm.each l (d6 ax);have F7:=fun c=>Ut cur c ag (fun l aC=>by have:=(hm.each l aC).1;omega)
   unfold dd at F7;unfold bj at dc;have AE:(cur.take (j+1)).all aq3=((cur.take j).all aq3&&l.isEmpty):=by rw [jy ax,List.all_append];simp
   refine eh ?_;cases l with
   | nil=>
    rw [Ln ax] at aw;refine af.gI C ?_;refine fV ?_;exact bD.mk (j+1,-1,GC) I ⟨az,.inl ⟨rfl,aw,by rw [AE,← hr];simp⟩⟩ cA (aJ.eb _) (by show cur.length-(j+1)+1<cur.length-j+1;omega)
   | cons c r=>
    rw [Lo ax] at aw;refine af.cond C (fun _=>?_) (fun h=>absurd h bc);have Lq:((c::r).map bg)[0]? = some (.int .i64 c):=rfl;refine bK ?_;refine ae.dL C C C C C (F7 c) ?_;cases pT:free cur c with
    | true=>
     rw [pT,f7 C] at aw;have CB:=Lp.2 c i6;refine bK ?_;exact bD.mk (j+1,c,true) I ⟨az,.inr ⟨CB,aw⟩⟩ cA (aJ.eb _) (by show cur.length-(j+1)+(if c<0 then 1 else 0)<cur.length-j+1;split<;>omega)
    | false=>
     rw [pT,d7 bc] at aw;refine bK ?_;exact bD.mk (j+1,-1,true) I ⟨az,.inl ⟨rfl,aw,by rw [AE];simp⟩⟩ cA (aJ.eb _) (by show cur.length-(j+1)+1<cur.length-j+1;omega)
  ·have aB:¬ gC<0:=of_decide_eq_false aB
   obtain ⟨yy,u2⟩:0≤gC∧pick cur cur=some gC:=by
    rcases aw with h|h
    ·omega
    ·exact h
   have sf:¬ gC<0:=by omega
   refine ew ?_;refine af.cond C (fun h=>absurd (aj1 h) sf) (fun _=>?_);cases k with
   | zero=>omega
   | succ k=>
   have Lr:=Dt (u1 u2);rw [merge,u2] at dW;simp only at dW;refine eh ?_;refine ae.ho al I C C C C C C C eH C C C C C C C C a' ir lC ag (fun bT I=>?_);refine bK ?_;obtain ⟨xs,d'⟩:∃ xs:Nat→List ah,∀ j,xs j=((cur.take j).map (fu gC)).map bj:=⟨_,fun _=>rfl⟩;have bo:xs 0=[]:=by rw [d'];rfl
   have hH:∀ j,(xs j).length≤cur.length:=fun j=>by
    rw [d',f8,f8];exact ak' _ _
   refine af.jw I 23 1 0 fun I=>?_
   refine af.ck [0,4,5] C I (σ:=Nat×bV) (fun q=>[(9,.int .i64 (q.1:Int)),(8,.aG 1 (xs q.1) q.2)]) (fun q=>[(q.2,.row 23 1 (xs q.1).length),(.own bT,.row 3 1 (acc.length+1))]) (fun q=>q.1≤cur.length) (fun q=>cur.length-q.1) (0,.nil) (g9 _) ⟨⟨_,rfl,aT⟩,⟨_,rfl,by rw [bo];exact aZ.nil h4⟩,trivial⟩ Gm ?_;rintro ⟨i,u3⟩ aS I;simp only at aS I ⊢;refine cf ?_;refine af.cond C (fun lE=>?_) (fun l9=>?_)
   ·have lE:i<cur.length:=by simpa using lE
    obtain ⟨l,ax,dc⟩:=b7 (f:=bj) lE;have au:=d' (i+1);rw [jy ax,ae1,ae1,← d'] at au;have au:xs (i+1)=xs i++[.aG 1 ((fu gC l).map bg) .bd]:=au;have db:(xs (i+1)).length=(xs i).length+1:=by rw [au];simp
    have lV:=hH i;have hw:=GB l gC (by have:=(hm.each l (d6 ax)).1;omega);unfold bj at dc hw;refine eh ?_;refine ae.dL C C C C C hw ?_;refine er ?_;refine ae.ho al I C C C C C C C eH C C C C C C C C a' ir p1 ag (fun e5 I=>?_);refine hC ?_;exact bD.mk (i+1,.own e5) I lE ow (by show aJ _ [(_,.row _ _ (xs (i+1)).length),_] _;rw [db];exact aJ.eb _) Gq
   ·have l9:i=cur.length:=by
     have:cur.length≤i:=by simpa using l9
     omega
    subst l9;have he:xs cur.length=(cur.map (fu gC)).map bj:=by rw [d',af1]
    rw [he] at I ⊢;refine bK ?_;exact bD.mk (k,cur.map (fu gC),acc++[gC],.own bT) I ⟨dW,by show total (cur.map (fu gC))<k;omega,hm.fu gC,by show (acc++[gC]).length+total (cur.map (fu gC))≤total all;rw [f9,ag8];omega⟩ ⟨⟨_,rfl,aZ.bd⟩,⟨_,rfl,aZ.of_eq (by simp [bg])⟩,trivial⟩ (by show aJ _ [(_,.row _ _ (acc++[gC]).length)] _;rw [f9,ag8];exact (aJ.eb _).there) (by show k<k+1;omega)
 ·refine ae.dh 14 C (by simpa using az) ?_
  have a7:j=cur.length:=by omega
  rcases aw with ⟨rfl,aw,hr⟩|⟨yy,u2⟩
  ·rw [eE ag] at aw
   rw [a7,af1] at hr;cases k with
   | zero=>omega
   | succ k=>
    rw [merge,aw] at dW;have dW:(acc,cur.all aq3)=merged all:=dW;rw [← dW,← hr];refine bK ?_;exact Fin.cE I C (aZ.cr (.cons aZ.bd (.one aT)))
  ·have sf:¬ gC<0:=by omega
   refine bK ?_;refine af.cond C (fun h=>absurd (aj1 h) sf) (fun _=>?_);cases k with
   | zero=>omega
   | succ k=>
   have Lr:=Dt (u1 u2);rw [merge,u2] at dW;simp only at dW;refine eh ?_;refine ae.ho al I C C C C C C C eH C C C C C C C C a' ir lC ag (fun bT I=>?_);refine bK ?_;obtain ⟨xs,d'⟩:∃ xs:Nat→List ah,∀ j,xs j=((cur.take j).map (fu gC)).map bj:=⟨_,fun _=>rfl⟩;have bo:xs 0=[]:=by rw [d'];rfl
   have hH:∀ j,(xs j).length≤cur.length:=fun j=>by
    rw [d',f8,f8];exact ak' _ _
   refine af.jw I 23 1 0 fun I=>?_
   refine af.ck [0,4,5] C I (σ:=Nat×bV) (fun q=>[(9,.int .i64 (q.1:Int)),(8,.aG 1 (xs q.1) q.2)]) (fun q=>[(q.2,.row 23 1 (xs q.1).length),(.own bT,.row 3 1 (acc.length+1))]) (fun q=>q.1≤cur.length) (fun q=>cur.length-q.1) (0,.nil) (g9 _) ⟨⟨_,rfl,aT⟩,⟨_,rfl,by rw [bo];exact aZ.nil h4⟩,trivial⟩ Gm ?_;rintro ⟨i,u3⟩ aS I;simp only at aS I ⊢;refine cf ?_;refine af.cond C (fun lE=>?_) (fun l9=>?_)
   ·have lE:i<cur.length:=by simpa using lE
    obtain ⟨l,ax,dc⟩:=b7 (f:=bj) lE;have au:=d' (i+1);rw [jy ax,ae1,ae1,← d'] at au;have au:xs (i+1)=xs i++[.aG 1 ((fu gC l).map bg) .bd]:=au;have db:(xs (i+1)).length=(xs i).length+1:=by rw [au];simp
    have lV:=hH i;have hw:=GB l gC (by have:=(hm.each l (d6 ax)).1;omega);unfold bj at dc hw;refine eh ?_;refine ae.dL C C C C C hw ?_;refine er ?_;refine ae.ho al I C C C C C C C eH C C C C C C C C a' ir p1 ag (fun e5 I=>?_);refine hC ?_;exact bD.mk (i+1,.own e5) I lE ow (by show aJ _ [(_,.row _ _ (xs (i+1)).length),_] _;rw [db];exact aJ.eb _) Gq
   ·have l9:i=cur.length:=by
     have:cur.length≤i:=by simpa using l9
     omega
    subst l9;have he:xs cur.length=(cur.map (fu gC)).map bj:=by rw [d',af1]
    rw [he] at I ⊢;refine bK ?_;exact bD.mk (k,cur.map (fu gC),acc++[gC],.own bT) I ⟨dW,by show total (cur.map (fu gC))<k;omega,hm.fu gC,by show (acc++[gC]).length+total (cur.map (fu gC))≤total all;rw [f9,ag8];omega⟩ ⟨⟨_,rfl,aZ.bd⟩,⟨_,rfl,aZ.of_eq (by simp [bg])⟩,trivial⟩ (by show aJ _ [(_,.row _ _ (acc++[gC]).length)] _;rw [f9,ag8];exact (aJ.eb _).there) (by show k<k+1;omega)
structure sg (g:List (List Int)):Prop where
 len:g.length≤16
 par:∀ (i:Nat) (l:List Int),g[i]? = some l→l.length≤3∧∀ c∈l,3≤c∧c<3+(i:Int)
theorem Ls {f i:Int}:∀ {l seen:List Int},mH f i seen l=true→∀ c∈l,f≤c∧c<f+i
  | [],_,_,c,aD=>by cases aD
  | d::r,seen,h,c,aD=>by
    rw [mH] at h;simp only [f4,g6] at h;rcases ae8.1 aD with rfl|aD
    · exact ⟨h.1,h.2.1⟩
    · exact Ls h.2.2.2 c aD
theorem Lt:∀ {g:List (List Int)} {k:Nat},oy k g=true→∀ i l,g[i]? = some l→l.length≤3∧∀ c∈l,3≤c∧c<3+((k+i:Nat):Int)
  | [],_,_,i,l,aC=>by simp at aC
  | x::r,k,h,i,l,aC=>by
    rw [oy] at h;simp only [f4,g6] at h;cases i with
    | zero=>
      cases aC;exact ⟨h.1,fun c aD=>by have:=Ls h.2.1 c aD;omega⟩
    | succ i=>
      have:=Lt h.2.2 i l aC;rw [show k+1+i=k+(i+1) by omega] at this;exact this
theorem AF {g:List (List Int)} (h:mI g=true):sg g:=by
 unfold mI at h;simp only [f4,g6] at h;refine ⟨h.1,fun i l aC=>?_⟩;have:=Lt h.2 i l aC;simpa using this
theorem sg.parents {g:List (List Int)} (h:sg g) (c:Nat):(parents g c).length≤3∧∀ p∈parents g c,3≤p∧p<(c:Int):=by
 unfold Go.Proofs.YtnafpeohfbglmaaGreat.parents;by_cases aD:c<3
 ·rw [f7 aD];exact ⟨by simp,fun p aF=>by cases aF⟩
 ·rw [d7 aD,d5]
  cases aC:g[c-3]? with
  | none=>exact ⟨by simp,fun p aF=>by simp at aF⟩
  | some l=>
   obtain ⟨aa,ad⟩:=h.par _ _ aC;exact ⟨aa,fun p aF=>by have:=ad p aF;omega⟩
structure acN (n:Nat) (l:List Int):Prop where
 len:l.length≤n
 pos:∀ c∈l,0≤c
theorem GD:∀ (k:Nat) (all:List (List Int)) (acc:List Int),(merge k all acc).1.length≤acc.length+total all
  | 0,_,acc=>by rw [merge];exact aA7 _ _
  | k+1,all,acc=>by
    rw [merge];cases aF:pick all all with
    | none=>exact aA7 _ _
    | some d=>
      simp only;have aa:=GD k (all.map (fu d)) (acc++[d]);have ad:=Dt (u1 aF);rw [f9,ag8] at aa;omega
theorem Uw (g:List (List Int)) (aq:g.length<bx) (c:Nat) (aD:c<3+g.length):aV d0 271 [dd g,.int .i64 (c:Int)] (bj (parents g c)):=by
 have an:=bE;refine aV.bl al Tryz.func271 C C fun s I=>?_
 unfold dd parents;refine cf ?_;refine af.cond C (fun h=>?_) (fun h=>?_)
 ·have h:c<3:=by have:=aj1 h;omega
  rw [f7 h];refine gE ?_;exact Fin.cE I C (aZ.nil h4)
 ·have h:¬ c<3:=by have:=of_decide_eq_false h;omega
  obtain ⟨l,ax,dc⟩:=b7 (f:=bj) (l:=g) (j:=c-3) ag;rw [d7 h,d5,ax];unfold bj at dc;refine eh ?_;refine ae.idx al (c-3) C C C C C C C C C C Gp dc C ?_;refine ep ?_;exact br I
theorem Lu {o:List (List Int)}:∀ {l:List Int} {r:List (List Int)},iR o l=some r→r.length=l.length
  | [],r,h=>by cases h;rfl
  | p::q,r,h=>by
    rw [iR] at h;split at h
    · cases h
    · cases bn:iR o q with
      | none=>rw [bn] at h;cases h
      | some t=>
        rw [bn] at h;cases h;rw [i5,Lu bn,i5]
def pre (x:Option (List (List Int))) (a:List (List Int)):Option (List (List Int)):=x.map fun l=>a++l
theorem Lv (x:Option (List (List Int))):pre x []=x:=by cases x<;>rfl
theorem Lw (o:List (List Int)) (a:List (List Int)) (p:Int) (q:List Int):pre (iR o (p::q)) a=if (o.getD p.toNat []).isEmpty then none else pre (iR o q) (a++[fu 0 (o.getD p.toNat [])]):=by
 unfold pre;rw [iR];split
 ·rfl
 ·cases iR o q<;>simp
def u4:Option (List (List Int))→ah
 | some l => .cr [dd l,.bool true]
 | none => .cr [dd [],.bool false]
theorem Ux (g:List (List Int)) (aq:sg g) (o:List (List Int)) (c:Nat) (aD:c<3+g.length) (ai:c≤o.length) (gd:o.length<100) (AG:∀ l∈o,l.length<1000) :
  aV d0 251 [dd g,dd o,.int .i64 (c:Int)] (u4 (lists g o c)):=by
 have an:=bE;have j2:=aq.len;have aF:=Uw g ag c aD;obtain ⟨sh,oz⟩:=aq.parents c;unfold lists;generalize parents g c=l at aF sh oz ⊢;refine aV.bl al Tryz.func251 C C fun s I=>?_
 unfold dd at aF ⊢;unfold bj at aF;refine dS ?_;refine ae.dL C C C C C aF ?_;refine bK ?_;refine af.jw I 23 1 0 fun I=>?_
 refine af.ck [1,9] C I (σ:=Nat×List (List Int)×bV) (fun q=>[(10,.int .i64 (q.1:Int)),(8,.aG 1 (q.2.1.map bj) q.2.2)]) (fun q=>[(q.2.2,.row 23 1 q.2.1.length)]) (fun q=>q.1≤l.length∧q.2.1.length=q.1∧iR o l=pre (iR o (l.drop q.1)) q.2.1) (fun q=>l.length-q.1) (0,[],.nil) ⟨g9 _,rfl,(Lv _).symm⟩ ⟨⟨_,rfl,aT⟩,⟨_,rfl,aZ.nil h4⟩,trivial⟩ (aJ.eb _) ?_;rintro ⟨j,acc,own⟩ ⟨aI,jM,aw⟩ I;simp only at aI jM aw I ⊢;refine cf ?_;refine af.cond C (fun az=>?_) (fun a7=>?_);rotate_left
 ·have a7:l.length≤j:=by simpa using a7
  rw [eE a7] at aw;have aw:iR o l=some (acc++[]):=aw;rw [aw,d9];have AH:u4 (Option.map (fun x=>x++[l]) (some acc)) = .cr [.aG 1 (acc.map bj++[.aG 1 (l.map bg) .bd]) .bd,.bool true]:=by
   show ah.cr [.aG 1 ((acc++[l]).map bj) .bd,.bool true]=_;rw [ae1];rfl
  rw [AH];refine bK ?_;refine ae.ho al I C C C C C C C eH C C C C C C C C a' ir p1 ag (fun bT I=>?_);refine ep ?_;exact Fin.cE I C (aZ.cr (.cons aZ.bd (.one aT)))
 have az:j<l.length:=by simpa using az
 obtain ⟨p,ax,dc⟩:=b7 (f:=bg) az;rw [drop_cons ax,Lw] at aw;obtain ⟨Lx,acO⟩:=oz p (d6 ax);have gX:p.toNat<o.length:=by omega
 have GF:o[p.toNat]? = some (o.getD p.toNat []):=by rw [d5,d8 gX];rfl
 have jf:=AG _ (d6 GF);have Dw:(o.map bj)[p.toNat]? = some (bj (o.getD p.toNat [])):=by rw [ae7,GF];rfl
 generalize o.getD p.toNat []=ol at aw GF jf Dw;have AI:p=(p.toNat:Int):=by omega
 have hw:=GB ol 0 ag;unfold bg at dc;unfold bj at Dw hw;refine eh ?_;refine ae.idx al p.toNat C C C C C C C C C C AI Dw C ?_;refine gj ?_;cases ol with
 | nil=>
  have aw:iR o l=none:=aw;rw [aw];refine af.fx C ?_;refine jK ?_;exact Fin.cE I C (aZ.cr (.cons (aZ.nil h4) (.one aT)))
 | cons x r=>
  refine af.cond C (fun h=>absurd h cL) (fun _=>?_);refine eh ?_;refine ae.idx al p.toNat C C C C C C C C C C AI Dw C ?_;refine er ?_;refine ae.dL C C C C C hw ?_;refine er ?_;refine ae.ho al I C C C C C C C eH C C C C C C C C a' ir p1 ag (fun bT I=>?_);refine hC ?_;exact bD.mk (j+1,acc++[fu 0 (x::r)],.own bT) I ⟨az,by rw [f9,jM];rfl,aw⟩ yr (by show aJ _ [(_,.row _ _ (acc++[fu 0 (x::r)]).length)] _;rw [f9,ag8];exact aJ.eb _) (by show l.length-(j+1)<l.length-j;omega)
theorem af.AJ {P:Program} {N:Nat} {Q:b3→Env→ao→Prop} {env:Env} {s:ao} {c:Code} {L:bb} (I:Ok s L) (e:TypeId) (sz n:Nat) (h:Ok s ((.clip,.row e sz n)::L)→af P N c Q env (aU s ((.clip,.row e sz n)::L))):af P N c Q env (aU s L):=h ⟨trivial,I⟩
theorem ae.AJ {P:Program} {N:Nat} {ops:Array Oper} {Q:b3→Env→ao→Prop} {env:Env} {s:ao} {l:List Oper} {L:bb} (I:Ok s L) (e:TypeId) (sz n:Nat) (h:Ok s ((.clip,.row e sz n)::L)→ae P N ops l Q env (aU s ((.clip,.row e sz n)::L))):ae P N ops l Q env (aU s L):=h ⟨trivial,I⟩
theorem GG:∀ (n:Nat) (l:List Int),l.Nodup→(∀ c∈l,0≤c∧c<(n:Int))→l.length≤n
  | 0,[],_,_=>g7 _
  | 0,c::r,_,h=>by have:=h c i6;omega
  | n+1,l,ay,h=>by
    by_cases hm:(n:Int)∈l
    · have aa:=GG n (l.erase (n:Int)) (ay.erase _) (fun c aD=>by
        obtain ⟨ad,aj⟩:=ay.mem_erase_iff.1 aD
        have:=h c aj
        omega)
      rw [List.length_erase_of_mem hm] at aa;omega
    · have:=GG n l ay (fun c aD=>by
        have aa:=h c aD
        have:c≠(n:Int):=fun e=>hm (e ▸ aD)
        omega)
      omega
theorem Ly:∀ (k:Nat) (all:List (List Int)) (acc:List Int),acc.Nodup→(∀ c∈acc,∀ l∈all,c∉l)→(merge k all acc).1.Nodup
  | 0,_,_,h,_=>h
  | k+1,all,acc,h,ay=>by
    rw [merge];cases aF:pick all all with
    | none=>exact h
    | some d=>
      simp only;obtain ⟨t,aM⟩:=u1 aF;refine Ly k _ _ ?_ ?_
      · rw [List.nodup_append]
        exact ⟨h,by simp,fun a aO b an=>by
          rw [t6] at an;subst an
          intro e;subst e
          exact ay a aO _ aM i6⟩
      · intro c aD l aC
        obtain ⟨lA,aa,rfl⟩:=af8.1 aC;unfold fu;rw [ag3];rintro ⟨ad,aj⟩;rcases ae2.1 aD with aD|aD
        · exact ay c aD lA aa ad
        · rw [t6] at aD;subst aD;simp at aj
theorem Lz {q:Int→Prop}:∀ (k:Nat) (all:List (List Int)) (acc:List Int),(∀ l∈all,∀ c∈l,q c)→(∀ c∈acc,q c)→∀ c∈(merge k all acc).1,q c
  | 0,_,acc,_,h=>h
  | k+1,all,acc,aO,h=>by
    rw [merge];cases aF:pick all all with
    | none=>exact h
    | some d=>
      simp only;refine Lz k _ _ (fun l aC c aD=>?_) (fun c aD=>?_)
      · obtain ⟨lA,aa,rfl⟩:=af8.1 aC
        exact aO lA aa c (ag3.1 aD).1
      · rcases ae2.1 aD with aD|aD
        · exact h c aD
        · rw [t6] at aD;subst aD
          obtain ⟨t,aM⟩:=u1 aF;exact aO _ aM c i6
theorem GH {q:Int→Prop} {o:List (List Int)} (ai:∀ l∈o,∀ c∈l,q c):∀ {l:List Int} {r:List (List Int)},iR o l=some r→∀ x∈r,∀ c∈x,q c
  | [],r,h,x,ab=>by cases h;cases ab
  | p::t,r,h,x,ab=>by
    rw [iR] at h;split at h
    · cases h
    · cases bn:iR o t with
      | none=>rw [bn] at h;cases h
      | some s=>
        rw [bn] at h;cases h;rcases ae8.1 ab with rfl|ab
        · intro c aD
          have aD:=(ag3.1 aD).1;rw [d5] at aD;cases aC:o[p.toNat]? with
          | none=>rw [aC] at aD;cases aD
          | some l=>rw [aC] at aD;exact ai l (d6 aC) c aD
        · exact GH ai bn x ab
structure GI (n:Nat) (o:List (List Int)):Prop where
 len:∀ l∈o,l.length≤n+2
 GJ:∀ l∈o,∀ c∈l,0≤c∧c<(n:Int)
theorem Uy {g:List (List Int)} (aq:sg g) {o:List (List Int)} {c:Nat} (aD:c<3+g.length) (ai:GI (3+g.length) o):(order g o c).length≤3+g.length+2∧∀ x∈order g o c,0≤x∧x<((3+g.length:Nat):Int):=by
 unfold order;cases aC:lists g o c with
 | none=>exact ⟨by simp,fun x ab=>by cases ab⟩
 | some all=>
  simp only;split
  ·have aF:=aq.parents c
   have fJ:∀ l∈all,∀ c∈l,0≤c∧c<((3+g.length:Nat):Int):=by
    unfold lists at aC;cases bn:iR o (parents g c) with
    | none=>rw [bn] at aC;cases aC
    | some r=>
     rw [bn] at aC;cases aC;intro l aC x ab;rcases ae2.1 aC with aC|aC
     ·exact GH (q:=fun x=>0≤x∧x<((3+g.length:Nat):Int)) ai.GJ bn l aC x ab
     ·rw [t6] at aC;subst aC
      have:=aF.2 x ab;omega
   have aa:∀ x∈(merged all).1,0≤x∧x<((3+g.length:Nat):Int):=Lz _ all [] fJ (fun c aD=>by cases aD);have ad:(merged all).1.Nodup:=Ly _ all [] List.nodup_nil (fun c aD=>by cases aD);have aj:=GG _ _ ad aa;refine ⟨by rw [f9,i5,ag8];omega,fun x ab=>?_⟩;rcases ae2.1 ab with ab|ab
   ·rcases ae8.1 ab with rfl|ab
    ·omega
    ·exact aa x ab
   ·rw [t6] at ab;omega
  ·exact ⟨by simp,fun x ab=>by cases ab⟩
theorem AK {g:List (List Int)} (aq:sg g):∀ k,k<3+g.length→GI (3+g.length) (fE g k)
  | 0,_=>⟨fun l aC=>by rw [fE,t6] at aC;subst aC;simp,fun l aC c aD=>by rw [fE,t6] at aC;subst aC;rw [t6] at aD;omega⟩
  | k+1,h=>by
    have aW:=AK aq k ag;have aa:=Uy aq h aW;rw [fE];refine ⟨fun l aC=>?_,fun l aC=>?_⟩
    · rcases ae2.1 aC with aC|aC
      · exact aW.len l aC
      · rw [t6] at aC;subst aC;exact aa.1
    · rcases ae2.1 aC with aC|aC
      · exact aW.GJ l aC
      · rw [t6] at aC;subst aC;exact aa.2
theorem aZ.AL {sz:Nat} {xs ys:List ah} {own:bV} (h:cS xs ys):aZ (.aG sz xs own) (.aG sz ys own):=fun w p v ar=>by
 cases ar with
 | hY _ _ ai=>cases h;exact .hY _ _ ai
 | iA a _ _ ai=>cases h;exact .iA a _ _ ai
 | aG g off n cap _ vs _ _ aB aC aD aE au hm aA b9 ai=>exact .aG g off n cap _ vs _ _ aB (by rw [aC];exact h.length) aD (h.rel aE) au hm aA b9 ai
theorem GK {g:List (List Int)} (aq:sg g) {o:List (List Int)} {c:Nat} (ai:GI (3+g.length) o) {all:List (List Int)} (h:lists g o c=some all):q4 4 21 all:=by
 have aF:=aq.parents c;have j2:=aq.len;unfold lists at h;cases bn:iR o (parents g c) with
 | none=>rw [bn] at h;cases h
 | some r=>
  rw [bn] at h;cases h;have aC:=Lu bn;refine ⟨by rw [f9,ag8];omega,fun l aC=>?_⟩;rcases ae2.1 aC with aC|aC
  ·refine ⟨?_,fun x ab=>(GH (q:=fun x=>0≤x) (fun l aC c aD=>(ai.GJ l aC c aD).1) bn l aC x ab)⟩
   have key:∀ {l:List Int} {r:List (List Int)},iR o l=some r→∀ x∈r,x.length≤21:=by
    intro l
    induction l with
    | nil=>intro r h x ab;cases h;cases ab
    | cons p t aW=>
     intro r h x ab;rw [iR] at h;split at h
     ·cases h
     ·cases bn:iR o t with
      | none=>rw [bn] at h;cases h
      | some s=>
       rw [bn] at h;cases h;rcases ae8.1 ab with rfl|ab
       ·refine an0 (yv _ _) ?_
        rw [d5];cases aC:o[p.toNat]? with
        | none=>simp
        | some l=>
         have:=ai.len l (d6 aC);show l.length≤21;omega
       ·exact aW bn x ab
   exact key bn l aC
  ·rw [t6] at aC;subst aC
   exact ⟨by omega,fun x ab=>by have:=aF.2 x ab;omega⟩
theorem Uz (g:List (List Int)) (aq:sg g):aV d0 219 [dd g] (dd (fE g (2+g.length))):=by
 have an:=bE;have j2:=aq.len;obtain ⟨xs,d'⟩:∃ xs:Nat→List ah,∀ j,xs j=(fE g j).map bj:=⟨_,fun _=>rfl⟩;have bo:xs 0=[.aG 1 [.int .i64 0] .bd]:=by rw [d'];rfl
 have hH:∀ j,(xs j).length=j+1:=fun j=>by rw [d',f8,tJ]
 refine aV.bl al Tryz.func219 C C fun s I=>?_
 unfold dd;refine hp ?_;refine af.AJ I 23 1 1 fun I=>?_
 refine af.ck [0] C I (σ:=Nat×bV) (fun q=>[(4,.int .i64 ((q.1+1:Nat):Int)),(3,.aG 1 (xs q.1) q.2)]) (fun q=>[(q.2,.row 23 1 (xs q.1).length)]) (fun q=>q.1≤2+g.length) (fun q=>2+g.length-q.1) (0,.clip) (g9 _) ⟨⟨_,rfl,aT⟩,⟨_,rfl,by rw [bo];exact aZ.AL (.one aZ.bd)⟩,trivial⟩ (by rw [hH];exact aJ.eb _) ?_;rintro ⟨j,own⟩ aI I;simp only at aI I ⊢;have w:ac' .i64 (3+((g.map bj).length:Int))=3+(g.length:Int):=by rw [f8,ev ag ag]
 refine cf ?_;refine af.cond C (fun az=>?_) (fun a7=>?_);rotate_left
 ·have a7:j=2+g.length:=by
   rw [w] at a7;have:=of_decide_eq_false a7;omega
  subst a7;rw [← d'];refine ew ?_;exact Fin.cE I C aZ.bd
 have az:j<2+g.length:=by
  rw [w] at az;have:=aj1 az;omega
 have mw:=AK aq j ag;have pg:=Ux g aq (fE g j) (j+1) ag (by rw [tJ];exact g7 _) (by rw [tJ];omega) (fun l aC=>by have:=mw.len l aC;omega);have au:=d' (j+1);rw [fE,ae1,← d'] at au;have au:xs (j+1)=xs j++[bj (order g (fE g j) (j+1))]:=au;have db:(xs (j+1)).length=(xs j).length+1:=by rw [au];simp
 have lV:=hH j;unfold order at au;have UA:cS [.aG 1 (g.map bj) .bd,.aG 1 (xs j) own,.int .i64 ((j+1:Nat):Int)] [dd g,dd (fE g j),.int .i64 ((j+1:Nat):Int)] := .cons aT (.cons (by unfold dd;rw [← d'];exact aZ.bd) (.one aT));have pg:=aV.args UA pg;cases aC:lists g (fE g j) (j+1) with
 | none=>
  rw [aC] at pg au;unfold u4 dd at pg;simp only at au;refine bK ?_;refine ae.dL C C C C C pg ?_;refine bK ?_;refine ae.ho al I C C C C C C C eH C C C C C C C C a' ir p1 ag (fun bT I=>?_);refine hC ?_;exact bD.mk (j+1,.own bT) I az ⟨⟨_,rfl,aZ.of_eq (by rw [kF ag])⟩,⟨_,rfl,by rw [au];exact aZ.AL (cS.last (show aZ (.aG 0 [] .nil) (bj []) from aZ.nil h4) _)⟩,⟨_,rfl,aT⟩,trivial⟩ Gn Gr
 | some all=>
  rw [aC] at pg au;have hm:=Uu 4 21 ag all (GK aq mw aC);unfold u4 dd at pg;unfold dd bj at hm;simp only at au;refine bK ?_;refine ae.dL C C C C C pg ?_;refine bK ?_;refine ae.dL C C C C C hm ?_;have hV:=GD (total all+1) all [];have yx:=Dv (GK aq mw aC);cases wW:(merged all).2 with
  | false=>
   rw [wW] at au;simp only [Bool.false_eq_true,ah9] at au;refine bK ?_;refine ae.ho al I C C C C C C C eH C C C C C C C C a' ir p1 ag (fun bT I=>?_);refine hC ?_;exact bD.mk (j+1,.own bT) I az ⟨⟨_,rfl,aZ.of_eq (by rw [kF ag])⟩,⟨_,rfl,by rw [au];exact aZ.AL (cS.last (show aZ (.aG 0 [] .nil) (bj []) from aZ.nil h4) _)⟩,⟨_,rfl,aT⟩,trivial⟩ Gn Gr
  | true=>
   rw [wW] at au;simp only [ag5] at au;have GL:(merged all).1.length≤84:=by
    have:(merged all).1.length≤0+total all:=hV;omega
   generalize (merged all).1=m at hm au GL;have he:bj (((j+1:Nat):Int)::m++[0]) = .aG 1 ([.int .i64 ((j+1:Nat):Int)]++m.map bg++[.int .i64 0]) .bd:=by unfold bj;simp [bg]
   rw [he] at au;refine bK ?_;refine ae.AJ I 3 1 1 fun I=>?_
   refine ae.qZ al I rfl rfl rfl rfl rfl rfl rfl eH rfl rfl rfl rfl (.inr rfl) rfl (fun y ax=>by obtain ⟨z,-,rfl⟩:=af8.1 ax;rfl) C .here C (n':=m.length+1) cL cL cL (fun tK I=>?_);refine er ?_;refine ae.ho al I C C C C C C C eH C C C C C C C C a' ir lC ag (fun e5 I=>?_);refine h3 ?_;refine ae.ho al I C C C C C C C eH C C C C C C C C a' ir p1 ag (fun bT I=>?_);refine hC ?_;exact bD.mk (j+1,.own bT) I az ⟨⟨_,rfl,aZ.of_eq (by rw [kF ag])⟩,⟨_,rfl,by rw [au];exact aZ.AL (cS.last aZ.bd _)⟩,⟨_,rfl,aT⟩,trivial⟩ Gn Gr
theorem UB (g:List (List Int)) (aq:sg g) (c:Nat) (aD:c<3+g.length):aV d0 181 [dd g,.int .i64 (c:Int)] (.cr [bj ((fE g (2+g.length)).getD c []),.bool (!((fE g (2+g.length)).getD c []).isEmpty)]):=by
 have ai:=Uz g aq;have aC:=tJ g (2+g.length);have b9:c<(fE g (2+g.length)).length:=by omega
 obtain ⟨l,ax,dc⟩:=b7 (f:=bj) b9;rw [d5,ax,Option.getD_some];unfold dd at ai ⊢;unfold bj at dc;refine aV.bl al Tryz.func181 C C fun s I=>?_
 refine dS ?_;refine ae.dL C C C C C ai ?_;refine bK ?_;refine Fin.cE I C (aZ.cr (.cons aT (.one (aZ.of_eq ?_))));congr 1;cases l<;>simp
inductive av where
 | mk (op arg:Int) (path:List Int) (cls n:Int) (kids:List av)
namespace av
def op:av→Int | .mk o _ _ _ _ _=>o
def arg:av→Int | .mk _ a _ _ _ _=>a
def path:av→List Int | .mk _ _ p _ _ _=>p
def cls:av→Int | .mk _ _ _ c _ _=>c
def n:av→Int | .mk _ _ _ _ n _=>n
def kids:av→List av | .mk _ _ _ _ _ k=>k
mutual
def size:av→Nat
 | .mk _ _ p _ _ ks=>1+p.length+iS ks
def iS:List av→Nat
 | []=>0
 | k::r=>k.size+iS r
end
theorem size_eq (x:av):x.size=1+x.path.length+iS x.kids:=by cases x;rw [size];rfl
theorem h5:∀ {l:List av} {x:av},x∈l→x.size≤iS l
  | k::r,x,h=>by
    rw [iS];rcases ae8.1 h with rfl|h
    · omega
    · have:=h5 h;omega
theorem q5:∀ l:List av,l.length≤iS l
 | []=>g7 _
 | k::r=>by have:=q5 r;rw [iS,i5,size_eq];omega
instance:Inhabited av:=⟨.mk 0 0 [] 0 0 []⟩
mutual
def same:av→av→Bool
 | .mk o a p c n ks,.mk o' c1 bh ph n' Dx=>decide (o=o')&&(decide (a=c1)&&(decide (c=ph)&&(decide (n=n')&&(p==bh&&pj ks Dx))))
def pj:List av→List av→Bool
 | [],[]=>true
 | x::r,y::t=>same x y&&pj r t
 | _,_=>false
end
mutual
theorem LA:∀ (x y:av),same x y=true↔x=y
  | .mk o a p c n ks,.mk o' c1 bh ph n' Dx=>by
    rw [same];simp only [f4,g6,am5,LB ks Dx,av.mk.injEq];constructor
    · rintro ⟨aa,ad,aj,a8,bB,gp⟩;exact ⟨aa,ad,bB,aj,a8,gp⟩
    · rintro ⟨aa,ad,bB,aj,a8,gp⟩;exact ⟨aa,ad,aj,a8,bB,gp⟩
theorem LB:∀ (x y:List av),pj x y=true↔x=y
  | [],[]=>by simp [pj]
  | [],y::t=>by simp [pj]
  | x::r,[]=>by simp [pj]
  | x::r,y::t=>by
    rw [pj,f4,LA x y,LB r t,List.cons.injEq]
end
def cU (f:av):Bool:=decide (f.op≥2)&&decide (f.op≤4)
def not (f:av):av := .mk 5 0 [] 0 0 [f]
def and (f g:av):av := .mk 6 0 [] 0 0 [f,g]
end av
structure bz where
 ps:List (List Int)
 owner:List Int
structure iT where
 slot:Int
 n:Int
structure fL where
 parents:List Int
 bm:List Int
 inits:List iT
 deriving Inhabited
structure gN where
 kind:Int
 gen:Int
 fact:av
 node:Int
 deriving Inhabited
structure iU where
 op:Int
 n:Int
 kids:List Int
 deriving Inhabited
structure bN where
 cm:List fL
 bm:Int
 dt:List Int
 methods:List gN
 nodes:List iU
 main:Int
structure c3 where
 cls:Int
 bm:List (Int×Int)
 deriving Inhabited
def q6 (op:Int):Nat:=if op=5 then 1 else if op=6∨op=7 then 2 else 0
def j3 (n:Int):Bool:=decide (n ≥ -1000000000)&&decide (n≤1000000000)
def hM (w:bz) (f:av):Bool:=
 decide (f.op≥1)&&(decide (f.op≤7)&&(decide (f.kids.length=q6 f.op) &&
  (if f.cU then
   decide (f.arg≥0)&&(decide (f.arg<3)&&(decide (f.path.length≤2)&&(f.path.all (fun s=>decide (s≥0)&&decide (s<w.owner.length)) &&
    (if f.op=2 then decide (f.n=0)&&(decide (f.cls≥0)&&decide (f.cls<3+w.ps.length)) else decide (f.cls=0)&&j3 f.n))))
  else decide (f.arg=0)&&(decide (f.path.length=0)&&(decide (f.cls=0)&&decide (f.n=0))))))
mutual
def e2 (w:bz) (d:Nat) (k:Int):av→Bool×Int
 | .mk o a p c n ks=>
  if decide (k-1<0)||decide (d=0) then (false,k-1)
  else if hM w (.mk o a p c n ks) then ha w (d-1) (k-1) ks else (false,k-1)
def ha (w:bz) (d:Nat) (k:Int):List av→Bool×Int
 | []=>(true,k)
 | x::r=>if (e2 w d k x).1 then ha w d (e2 w d k x).2 r else (false,(e2 w d k x).2)
end
def ig (w:bz) (f:av):Bool:=(e2 w 12 24 f).1
theorem aJ.all:∀ L:bb,aJ L L []
 | [] => .nil
 | (_,_)::L => .cons .here (aJ.all L)
namespace av
mutual
def cj:av→ah
 | .mk o a p c n ks => .agg [.int .i64 o,.int .i64 a,.aG 1 (p.map fun i => .int .i64 i) .bd,.int .i64 c,.int .i64 n,.aG 6 (Dy ks) .bd]
def Dy:List av→List ah
 | []=>[]
 | k::r=>k.cj::Dy r
end
theorem LC:∀ l:List av,Dy l=l.map cj
 | []=>rfl
 | k::r=>by rw [Dy,ae0,LC r]
def cells (x:av):List ah:=[.int .i64 x.op,.int .i64 x.arg,.aG 1 (x.path.map fun i => .int .i64 i) .bd,.int .i64 x.cls,.int .i64 x.n,.aG 6 (x.kids.map cj) .bd]
theorem cG (x:av):x.cj = .agg x.cells:=by cases x;rw [cj,LC];rfl
end av
def eX (w:bz):List ah:=[dd w.ps,bj w.owner]
def eI (w:bz):ah := .agg (eX w)
def wX (x:iT):ah := .agg [.int .i64 x.slot,.int .i64 x.n]
def nk (c:fL):List ah:=[bj c.parents,bj c.bm,.aG 2 (c.inits.map wX) .bd]
def jg (c:fL):ah := .agg (nk c)
def oA (m:gN):List ah:=[.int .i64 m.kind,.int .i64 m.gen,.int .i64 m.fact.op,.int .i64 m.fact.arg,.aG 1 (m.fact.path.map fun i => .int .i64 i) .bd,.int .i64 m.fact.cls,.int .i64 m.fact.n,.aG 6 (m.fact.kids.map av.cj) .bd,.int .i64 m.node]
def mJ (m:gN):ah := .agg (oA m)
def k7 (x:iU):List ah:=[.int .i64 x.op,.int .i64 x.n,bj x.kids]
def jh (x:iU):ah := .agg (k7 x)
def cI (p:bN):List ah:=[.aG 3 (p.cm.map jg) .bd,.int .i64 p.bm,bj p.dt,.aG 9 (p.methods.map mJ) .bd,.aG 3 (p.nodes.map jh) .bd,.int .i64 p.main]
def cD (p:bN):ah := .agg (cI p)
def gO (x:bs):List ah:=[.int .i64 x.atom,.int .i64 x.no,.int .i64 x.yes,bj x.ms]
def eR (x:bs):ah := .agg (gO x)
theorem ej.LD {P:Program} {fv:ah} {args:List ah} {v:ah} (h:ej P fv args v):ds P fv args [] (fun o K=>o = .ret v∧K=[]):=fun s _=>hT.mono (h s) (fun o ak ⟨aa,ad⟩=>⟨[],ad,trivial,aa,rfl⟩)
theorem bI.GM {P:Program} {f:FuncId} {args:List ah} {v:ah} (h:bI P f args [] (fun o K=>o = .ret v∧K=[])):aV P f args v:=fun s=>hl.mono (h s trivial) (fun o ak ⟨K,aa,_,ad,aj⟩=>⟨ad,by subst aj;exact aa⟩)
theorem LF {α:Type} (q:α→Bool):∀ (xs:List α) (j:Nat) (x:α),xs[j]? = some x→q x=true→(∀ (i:Nat) y,i<j→xs[i]? = some y→q y=false)→xs.findIdx? q=some j:=by
 intro xs j x ab bn aS;obtain ⟨aa,ad⟩:=t7.1 ab;rw [ag9];exact ⟨aa,by rw [ad];exact bn,fun i eJ=>by rw [aS i xs[i] eJ (d8 _)];simp⟩
theorem LG {α:Type} (q:α→Bool) (xs:List α) (aS:∀ (i:Nat) y,xs[i]? = some y→q y=false):xs.findIdx? q=none:=by
 rw [ai0];intro x ab;obtain ⟨i,h⟩:=af' ab;exact aS i x h
theorem UC {α:Type} {f:FuncId} {fv bt:ah} {cj:α→ah} {xs:List α} {q:α→Bool}
  (au:∀ (T:Nat→bb) (cq:Nat→Bool),(∀ j x,xs[j]? = some x→(∀ i,i<j→cq i=false)→ds d0 fv [cj x] (T j) (fun o K=>o = .ret (.bool (cq j))∧K=T (j+1)))→bI d0 f [bt,fv] (T 0)
   (fun o K=>(o = .ret (.int .i64 (-1))∧K=T xs.length∧∀ i,i<xs.length→cq i=false)∨∃ j,j<xs.length∧cq j=true∧(∀ i,i<j→cq i=false)∧o = .ret (.int .i64 (j:Int))∧K=T (j+1)))
  (h:∀ x∈xs,ej d0 fv [cj x] (.bool (q x))):aV d0 f [bt,fv] (.int .i64 (match xs.findIdx? q with|some i=>(i:Int)|none => -1)):=by
 have:=au (fun _=>[]) (fun j=>match xs[j]? with|some x=>q x|none=>false) (fun j x ab _=>by rw [ab];exact ej.LD (h x (d6 ab)));refine bI.GM (bI.mono this ?_);rintro o K (⟨rfl,rfl,aa⟩|⟨j,aa,ad,aj,rfl,rfl⟩)
 ·rw [LG q xs (fun i y ax=>by have:=aa i (se ax);rw [ax] at this;exact this)]
  exact ⟨rfl,rfl⟩
 ·have ab:=d8 aa
  rw [ab] at ad;rw [LF q xs j _ ab ad (fun i y eJ ax=>by have:=aj i eJ;rw [ax] at this;exact this)];exact ⟨rfl,rfl⟩
theorem AM {α:Type} {f:FuncId} {fv bt:ah} {cj:α→ah} {xs:List α} {q:α→Bool}
  (au:∀ (T:Nat→bb) (cq:Nat→Bool),(∀ j x,xs[j]? = some x→(∀ i,i<j→cq i=false)→ds d0 fv [cj x] (T j) (fun o K=>o = .ret (.bool (cq j))∧K=T (j+1)))→bI d0 f [bt,fv] (T 0)
   (fun o K=>(o = .ret (.bool false)∧K=T xs.length∧∀ i,i<xs.length→cq i=false)∨∃ j,j<xs.length∧cq j=true∧(∀ i,i<j→cq i=false)∧o = .ret (.bool true)∧K=T (j+1)))
  (h:∀ x∈xs,ej d0 fv [cj x] (.bool (q x))):aV d0 f [bt,fv] (.bool (xs.any q)):=by
 have:=au (fun _=>[]) (fun j=>match xs[j]? with|some x=>q x|none=>false) (fun j x ab _=>by rw [ab];exact ej.LD (h x (d6 ab)));refine bI.GM (bI.mono this ?_);rintro o K (⟨rfl,rfl,aa⟩|⟨j,aa,ad,aj,rfl,rfl⟩)
 ·have:xs.any q=false:=by
   rw [List.any_eq_false];intro x ab;obtain ⟨i,aS⟩:=af' ab;have:=aa i (se aS);rw [aS] at this;simpa using this
  rw [this];exact ⟨rfl,rfl⟩
 ·have ab:=d8 aa
  rw [ab] at ad;have:xs.any q=true:=List.any_eq_true.2 ⟨_,aj4 aa,ad⟩;rw [this];exact ⟨rfl,rfl⟩
def eK (v:Int×Int):ah := .agg [.int .i64 v.1,.int .i64 v.2]
def hs (x:c3):ah := .agg [.int .i64 x.cls,.aG 2 (x.bm.map eK) .bd]
theorem LH (fv:ah) (xs:List av) (T:Nat→bb) (cq:Nat→Bool) (aC:xs.length<bx) (h:∀ j x,xs[j]? = some x→(∀ i,i<j→cq i=false)→ds d0 fv [av.cj x] (T j) (fun o K=>o = .ret (.bool (cq j))∧K=T (j+1))) :
  bI d0 150 [.aG 6 (xs.map av.cj) .bd,fv] (T 0)
   (fun o K=>(o = .ret (.int .i64 (-1))∧K=T xs.length∧∀ i,i<xs.length→cq i=false)∨∃ j,j<xs.length∧cq j=true∧(∀ i,i<j→cq i=false)∧o = .ret (.int .i64 (j:Int))∧K=T (j+1)):=by
 have an:=bE;refine bI.bl al Tryz.func150 C C fun s I=>?_
 refine hp ?_;refine af.yp I (σ:=Nat) (fun j=>[(0,.aG 6 (xs.map av.cj) .bd),(1,fv),(7,.int .i64 xs.length),(8,.int .i64 (j:Int))]) T (fun j=>j≤xs.length∧∀ i,i<j→cq i=false) (fun j=>xs.length-j) 0 ⟨by omega,fun i aS=>by omega⟩ As (aJ.all _) ?_;rintro j ⟨aI,aw⟩ I;refine cf ?_;refine af.cond C (fun az=>?_) (fun a7=>?_)
 ·have az:j<xs.length:=by simpa using az
  obtain ⟨x,ab,ch⟩:=b7 (f:=av.cj) az;have ar:=h j x ab aw
  try rw [av.cG] at ch ar
  refine bK ?_;refine ae.gM rfl rfl rfl rfl rfl rfl ar I (aJ.all _) ?_ (fun _ _ ⟨h,_⟩ _=>by cases h);rintro _ _ ⟨⟨⟩,rfl⟩ I;rw [d9] at I ⊢;cases oB:cq j with
  | true=>
   refine fe ?_;exact Fin.bC I C aT (aJ.all _) (.inr ⟨j,az,oB,aw,rfl,rfl⟩)
  | false=>
   refine bK ?_
   exact bD.mk (j+1) I ⟨az,fun i aS=>by
    rcases ah7.1 aS with aS|rfl
    ·exact aw i aS
    ·exact oB⟩ cA (aJ.all _) sb
 ·have a7:j=xs.length:=by
   have:xs.length≤j:=by simpa using a7
   omega
  subst a7;refine ew ?_;exact Fin.bC I C aT (aJ.all _) (.inl ⟨rfl,rfl,aw⟩)
theorem GN (fv:ah) (xs:List av) (T:Nat→bb) (cq:Nat→Bool) (aC:xs.length<bx) (h:∀ j x,xs[j]? = some x→(∀ i,i<j→cq i=false)→ds d0 fv [av.cj x] (T j) (fun o K=>o = .ret (.bool (cq j))∧K=T (j+1))) :
  bI d0 102 [.aG 6 (xs.map av.cj) .bd,fv] (T 0)
   (fun o K=>(o = .ret (.bool false)∧K=T xs.length∧∀ i,i<xs.length→cq i=false)∨∃ j,j<xs.length∧cq j=true∧(∀ i,i<j→cq i=false)∧o = .ret (.bool true)∧K=T (j+1)):=by
 refine bI.bl al Tryz.func102 C C fun s I=>?_
 refine dS ?_;refine ae.b4 rfl rfl rfl rfl rfl (LH fv xs T cq aC h) I (aJ.all _) ?_ (fun _ _ h _=>by rcases h with ⟨h,_⟩|⟨_,_,_,_,h,_⟩<;>cases h);rintro _ _ (⟨⟨⟩,rfl,aa⟩|⟨j,aa,ad,aj,⟨⟩,rfl⟩) I
 all_goals rw [d9] at I ⊢
 ·refine ep ?_
  exact Fin.bC I C aT (aJ.all _) (.inl ⟨rfl,rfl,aa⟩)
 ·refine ep ?_
  exact Fin.bC I C (by simp;exact aT) (aJ.all _) (.inr ⟨j,aa,ad,aj,rfl,rfl⟩)
theorem UD (fv:ah) (q:av→Bool) (xs:List av) (aC:xs.length<bx) (h:∀ x∈xs,ej d0 fv [av.cj x] (.bool (q x))) :
  aV d0 102 [.aG 6 (xs.map av.cj) .bd,fv] (.bool (xs.any q)):=
 AM (fun T cq di=>GN fv xs T cq aC di) h
theorem UE (fv:ah) (q:av→Bool) (xs:List av) (aC:xs.length<bx) (h:∀ x∈xs,ej d0 fv [av.cj x] (.bool (q x))) :
  aV d0 150 [.aG 6 (xs.map av.cj) .bd,fv] (.int .i64 (match xs.findIdx? q with|some i=>(i:Int)|none => -1)):=
 UC (fun T cq di=>LH fv xs T cq aC di) h
theorem UF (fv:ah) (xs:List Int) (T:Nat→bb) (cq:Nat→Bool) (aC:xs.length<bx) (h:∀ j x,xs[j]? = some x→(∀ i,i<j→cq i=false)→ds d0 fv [bg x] (T j) (fun o K=>o = .ret (.bool (cq j))∧K=T (j+1))) :
  bI d0 90 [.aG 1 (xs.map bg) .bd,fv] (T 0)
   (fun o K=>(o = .ret (.int .i64 (-1))∧K=T xs.length∧∀ i,i<xs.length→cq i=false)∨∃ j,j<xs.length∧cq j=true∧(∀ i,i<j→cq i=false)∧o = .ret (.int .i64 (j:Int))∧K=T (j+1)):=by
 have an:=bE;refine bI.bl al Tryz.func90 C C fun s I=>?_
 refine hp ?_;refine af.yp I (σ:=Nat) (fun j=>[(0,.aG 1 (xs.map bg) .bd),(1,fv),(7,.int .i64 xs.length),(8,.int .i64 (j:Int))]) T (fun j=>j≤xs.length∧∀ i,i<j→cq i=false) (fun j=>xs.length-j) 0 ⟨by omega,fun i aS=>by omega⟩ As (aJ.all _) ?_;rintro j ⟨aI,aw⟩ I;refine cf ?_;refine af.cond C (fun az=>?_) (fun a7=>?_)
 ·have az:j<xs.length:=by simpa using az
  obtain ⟨x,ab,ch⟩:=b7 (f:=bg) az;have ar:=h j x ab aw
  try rw [bg] at ch ar
  refine bK ?_;refine ae.gM rfl rfl rfl rfl rfl rfl ar I (aJ.all _) ?_ (fun _ _ ⟨h,_⟩ _=>by cases h);rintro _ _ ⟨⟨⟩,rfl⟩ I;rw [d9] at I ⊢;cases oB:cq j with
  | true=>
   refine fe ?_;exact Fin.bC I C aT (aJ.all _) (.inr ⟨j,az,oB,aw,rfl,rfl⟩)
  | false=>
   refine bK ?_
   exact bD.mk (j+1) I ⟨az,fun i aS=>by
    rcases ah7.1 aS with aS|rfl
    ·exact aw i aS
    ·exact oB⟩ cA (aJ.all _) sb
 ·have a7:j=xs.length:=by
   have:xs.length≤j:=by simpa using a7
   omega
  subst a7;refine ew ?_;exact Fin.bC I C aT (aJ.all _) (.inl ⟨rfl,rfl,aw⟩)
theorem LI (fv:ah) (xs:List Int) (T:Nat→bb) (cq:Nat→Bool) (aC:xs.length<bx) (h:∀ j x,xs[j]? = some x→(∀ i,i<j→cq i=false)→ds d0 fv [bg x] (T j) (fun o K=>o = .ret (.bool (cq j))∧K=T (j+1))) :
  bI d0 40 [.aG 1 (xs.map bg) .bd,fv] (T 0)
   (fun o K=>(o = .ret (.bool false)∧K=T xs.length∧∀ i,i<xs.length→cq i=false)∨∃ j,j<xs.length∧cq j=true∧(∀ i,i<j→cq i=false)∧o = .ret (.bool true)∧K=T (j+1)):=by
 refine bI.bl al Tryz.func40 C C fun s I=>?_
 refine dS ?_;refine ae.b4 rfl rfl rfl rfl rfl (UF fv xs T cq aC h) I (aJ.all _) ?_ (fun _ _ h _=>by rcases h with ⟨h,_⟩|⟨_,_,_,_,h,_⟩<;>cases h);rintro _ _ (⟨⟨⟩,rfl,aa⟩|⟨j,aa,ad,aj,⟨⟩,rfl⟩) I
 all_goals rw [d9] at I ⊢
 ·refine ep ?_
  exact Fin.bC I C aT (aJ.all _) (.inl ⟨rfl,rfl,aa⟩)
 ·refine ep ?_
  exact Fin.bC I C (by simp;exact aT) (aJ.all _) (.inr ⟨j,aa,ad,aj,rfl,rfl⟩)
theorem UG (fv:ah) (q:Int→Bool) (xs:List Int) (aC:xs.length<bx) (h:∀ x∈xs,ej d0 fv [bg x] (.bool (q x))) :
  aV d0 40 [.aG 1 (xs.map bg) .bd,fv] (.bool (xs.any q)):=
 AM (fun T cq di=>LI fv xs T cq aC di) h
theorem UH (fv:ah) (xs:List (Int×Int)) (T:Nat→bb) (cq:Nat→Bool) (aC:xs.length<bx) (h:∀ j x,xs[j]? = some x→(∀ i,i<j→cq i=false)→ds d0 fv [eK x] (T j) (fun o K=>o = .ret (.bool (cq j))∧K=T (j+1))) :
  bI d0 241 [.aG 2 (xs.map eK) .bd,fv] (T 0)
   (fun o K=>(o = .ret (.int .i64 (-1))∧K=T xs.length∧∀ i,i<xs.length→cq i=false)∨∃ j,j<xs.length∧cq j=true∧(∀ i,i<j→cq i=false)∧o = .ret (.int .i64 (j:Int))∧K=T (j+1)):=by
 have an:=bE;refine bI.bl al Tryz.func241 C C fun s I=>?_
 refine hp ?_;refine af.yp I (σ:=Nat) (fun j=>[(0,.aG 2 (xs.map eK) .bd),(1,fv),(7,.int .i64 xs.length),(8,.int .i64 (j:Int))]) T (fun j=>j≤xs.length∧∀ i,i<j→cq i=false) (fun j=>xs.length-j) 0 ⟨by omega,fun i aS=>by omega⟩ As (aJ.all _) ?_;rintro j ⟨aI,aw⟩ I;refine cf ?_;refine af.cond C (fun az=>?_) (fun a7=>?_)
 ·have az:j<xs.length:=by simpa using az
  obtain ⟨x,ab,ch⟩:=b7 (f:=eK) az;have ar:=h j x ab aw
  try rw [eK] at ch ar
  refine bK ?_;refine ae.gM rfl rfl rfl rfl rfl rfl ar I (aJ.all _) ?_ (fun _ _ ⟨h,_⟩ _=>by cases h);rintro _ _ ⟨⟨⟩,rfl⟩ I;rw [d9] at I ⊢;cases oB:cq j with
  | true=>
   refine fe ?_;exact Fin.bC I C aT (aJ.all _) (.inr ⟨j,az,oB,aw,rfl,rfl⟩)
  | false=>
   refine bK ?_
   exact bD.mk (j+1) I ⟨az,fun i aS=>by
    rcases ah7.1 aS with aS|rfl
    ·exact aw i aS
    ·exact oB⟩ cA (aJ.all _) sb
 ·have a7:j=xs.length:=by
   have:xs.length≤j:=by simpa using a7
   omega
  subst a7;refine ew ?_;exact Fin.bC I C aT (aJ.all _) (.inl ⟨rfl,rfl,aw⟩)
theorem UI (fv:ah) (xs:List (Int×Int)) (T:Nat→bb) (cq:Nat→Bool) (aC:xs.length<bx) (h:∀ j x,xs[j]? = some x→(∀ i,i<j→cq i=false)→ds d0 fv [eK x] (T j) (fun o K=>o = .ret (.bool (cq j))∧K=T (j+1))) :
  bI d0 207 [.aG 2 (xs.map eK) .bd,fv] (T 0)
   (fun o K=>(o = .ret (.bool false)∧K=T xs.length∧∀ i,i<xs.length→cq i=false)∨∃ j,j<xs.length∧cq j=true∧(∀ i,i<j→cq i=false)∧o = .ret (.bool true)∧K=T (j+1)):=by
 refine bI.bl al Tryz.func207 C C fun s I=>?_
 refine dS ?_;refine ae.b4 rfl rfl rfl rfl rfl (UH fv xs T cq aC h) I (aJ.all _) ?_ (fun _ _ h _=>by rcases h with ⟨h,_⟩|⟨_,_,_,_,h,_⟩<;>cases h);rintro _ _ (⟨⟨⟩,rfl,aa⟩|⟨j,aa,ad,aj,⟨⟩,rfl⟩) I
 all_goals rw [d9] at I ⊢
 ·refine ep ?_
  exact Fin.bC I C aT (aJ.all _) (.inl ⟨rfl,rfl,aa⟩)
 ·refine ep ?_
  exact Fin.bC I C (by simp;exact aT) (aJ.all _) (.inr ⟨j,aa,ad,aj,rfl,rfl⟩)
theorem UJ (fv:ah) (q:(Int×Int)→Bool) (xs:List (Int×Int)) (aC:xs.length<bx) (h:∀ x∈xs,ej d0 fv [eK x] (.bool (q x))) :
  aV d0 207 [.aG 2 (xs.map eK) .bd,fv] (.bool (xs.any q)):=
 AM (fun T cq di=>UI fv xs T cq aC di) h
theorem UK (fv:ah) (xs:List c3) (T:Nat→bb) (cq:Nat→Bool) (aC:xs.length<bx) (h:∀ j x,xs[j]? = some x→(∀ i,i<j→cq i=false)→ds d0 fv [hs x] (T j) (fun o K=>o = .ret (.bool (cq j))∧K=T (j+1))) :
  bI d0 264 [.aG 2 (xs.map hs) .bd,fv] (T 0)
   (fun o K=>(o = .ret (.int .i64 (-1))∧K=T xs.length∧∀ i,i<xs.length→cq i=false)∨∃ j,j<xs.length∧cq j=true∧(∀ i,i<j→cq i=false)∧o = .ret (.int .i64 (j:Int))∧K=T (j+1)):=by
 have an:=bE;refine bI.bl al Tryz.func264 C C fun s I=>?_
 refine hp ?_;refine af.yp I (σ:=Nat) (fun j=>[(0,.aG 2 (xs.map hs) .bd),(1,fv),(7,.int .i64 xs.length),(8,.int .i64 (j:Int))]) T (fun j=>j≤xs.length∧∀ i,i<j→cq i=false) (fun j=>xs.length-j) 0 ⟨by omega,fun i aS=>by omega⟩ As (aJ.all _) ?_;rintro j ⟨aI,aw⟩ I;refine cf ?_;refine af.cond C (fun az=>?_) (fun a7=>?_)
 ·have az:j<xs.length:=by simpa using az
  obtain ⟨x,ab,ch⟩:=b7 (f:=hs) az;have ar:=h j x ab aw
  try rw [hs] at ch ar
  refine bK ?_;refine ae.gM rfl rfl rfl rfl rfl rfl ar I (aJ.all _) ?_ (fun _ _ ⟨h,_⟩ _=>by cases h);rintro _ _ ⟨⟨⟩,rfl⟩ I;rw [d9] at I ⊢;cases oB:cq j with
  | true=>
   refine fe ?_;exact Fin.bC I C aT (aJ.all _) (.inr ⟨j,az,oB,aw,rfl,rfl⟩)
  | false=>
   refine bK ?_
   exact bD.mk (j+1) I ⟨az,fun i aS=>by
    rcases ah7.1 aS with aS|rfl
    ·exact aw i aS
    ·exact oB⟩ cA (aJ.all _) sb
 ·have a7:j=xs.length:=by
   have:xs.length≤j:=by simpa using a7
   omega
  subst a7;refine ew ?_;exact Fin.bC I C aT (aJ.all _) (.inl ⟨rfl,rfl,aw⟩)
theorem UL (fv:ah) (xs:List c3) (T:Nat→bb) (cq:Nat→Bool) (aC:xs.length<bx) (h:∀ j x,xs[j]? = some x→(∀ i,i<j→cq i=false)→ds d0 fv [hs x] (T j) (fun o K=>o = .ret (.bool (cq j))∧K=T (j+1))) :
  bI d0 239 [.aG 2 (xs.map hs) .bd,fv] (T 0)
   (fun o K=>(o = .ret (.bool false)∧K=T xs.length∧∀ i,i<xs.length→cq i=false)∨∃ j,j<xs.length∧cq j=true∧(∀ i,i<j→cq i=false)∧o = .ret (.bool true)∧K=T (j+1)):=by
 refine bI.bl al Tryz.func239 C C fun s I=>?_
 refine dS ?_;refine ae.b4 rfl rfl rfl rfl rfl (UK fv xs T cq aC h) I (aJ.all _) ?_ (fun _ _ h _=>by rcases h with ⟨h,_⟩|⟨_,_,_,_,h,_⟩<;>cases h);rintro _ _ (⟨⟨⟩,rfl,aa⟩|⟨j,aa,ad,aj,⟨⟩,rfl⟩) I
 all_goals rw [d9] at I ⊢
 ·refine ep ?_
  exact Fin.bC I C aT (aJ.all _) (.inl ⟨rfl,rfl,aa⟩)
 ·refine ep ?_
  exact Fin.bC I C (by simp;exact aT) (aJ.all _) (.inr ⟨j,aa,ad,aj,rfl,rfl⟩)
theorem UM (fv:ah) (q:c3→Bool) (xs:List c3) (aC:xs.length<bx) (h:∀ x∈xs,ej d0 fv [hs x] (.bool (q x))) :
  aV d0 239 [.aG 2 (xs.map hs) .bd,fv] (.bool (xs.any q)):=
 AM (fun T cq di=>UL fv xs T cq aC di) h
theorem LJ {s s1:ao} {w da:World} {p jN:bU} {T:TypeId} {v:Value} {b:Nat} (hle:de w p da jN) (aA:Kept s s1 w p da jN) (ca:dq da jN s1) (AN:da.heap[b]? = some (.cells #[v] T (0,0)))
  (an:w.heap.size≤b) (aF:∀ o,¬ jN b o) (au:s1 b=none) (x:Value) :
  de w p (da.setRow b #[x]) jN∧Kept s s1 w p (da.setRow b #[x]) jN∧dq (da.setRow b #[x]) jN s1∧de da jN (da.setRow b #[x]) jN∧(da.setRow b #[x]).heap[b]? = some (.cells #[x] T (0,0)):=by
 have k3:dq da jN (s1.set b (.box T [.any])):=by
  refine ⟨fun aY o dU=>?_,ca.lt⟩;by_cases e:aY=b
  ·subst e;rw [ao.gr] at dU;cases dU
   exact ⟨_,AN,.cons _ _ _ _ (.any v) .nil,aF⟩
  ·rw [ao.fA _ _ e] at dU;exact ca.obj aY o dU
 obtain ⟨cu,c2,fg⟩:=we k3 (ao.gr _ _ _) (vs' := #[x]) (cs':=[.any]) (fun vs ar=>by rw [AN] at ar;cases ar;rfl) (.cons _ _ _ _ (.any x) .nil) _ C;have UN:∀ aY,aY≠b→(da.setRow b #[x]).heap[aY]? = da.heap[aY]?:=by
  intro aY dU;simp only [World.setRow];rw [ao',d7 (Ne.symm dU)]
 refine ⟨hle.trans cu,⟨fun aY dU aB=>(UN aY ag).trans (aA.heap aY dU aB),aA.kV,aA.lo⟩,fg.sub (fun aY=>?_),cu,?_⟩
 ·by_cases e:aY=b
  ·subst e;exact .inr au
  ·left;rw [ao.fA _ _ e,ao.fA _ _ e]
 ·simp only [World.setRow]
  rw [ao',f7 C,AN];rfl
theorem LK {w:World} {b:Nat} {v x:Value} {T:TypeId} (h:w.heap[b]? = some (.cells #[v] T (0,0))):w.setCell ⟨b,0,none⟩ x=w.setRow b #[x]:=by
 simp only [World.setCell,World.setRow];congr 1;refine aw5 fun i=>?_
 rw [ao',ao'];by_cases e:b=i
 ·subst e;rw [f7 C,f7 C,h];rfl
 ·rw [d7 e,d7 e]
theorem GO:∀ {rest:List PanicEntry},(∀ e∈rest,e.goexit=false)→rest.dropWhile (fun e => !e.goexit)=[]
 | [],_=>rfl
 | e::r,h=>by rw [List.dropWhile_cons,h e i6];simp only [aj6,ag5];exact GO fun e' he=>h e' (i0 _ he)
theorem af.use {P:Program} {N:Nat} {c:Code} {Q:b3→Env→ao→Prop} {env:Env} {s:ao} (h:af P N c Q env s) {b:Frame} {B:fQ} {a:Act} {w:World} {p:bU} (aX:(P.funcs[b.fn]?).isSome=true) (aK:dw N B b.roundOf env s a w p) :
  jS P b c (kx N B b.roundOf s w p Q) a w:=h b B a w p aX aK
theorem ds.frame {P:Program} {fv:ah} {args:List ah} {K L R:bb} {aeb D:eB→bb→Prop} (h:ds P fv args K aeb) (au:aJ L K R) (gi:∀ o aQ,aeb o aQ→D o (aQ++R)):ds P fv args L D:=
 fun s I=>(h.at I au).mono fun o ak ⟨UO,e,yz,aQ,GP,GQ⟩=>by
  subst GP;exact ⟨_,e,yz,gi o aQ GQ⟩
theorem a6.GR {P:Program} {Γ:cw} {N:Nat} {env:Env} {s:ao} {o:Oper} (aR:bR P Γ) {t yt e:TypeId} {x:Operand} {it:bQ} {sz:Nat} {xs:List ah} {own:bV} (ai:o.op = .binOp .eql t x (.const (.slice none 0 0)) yt)
  (aM:Γ.get? t=some it) (bw:it.bL = .aG e) (ab:aN env x=some (.aG sz xs own)) {X:ah→ao→Prop} :
  a6 P N o env s (fun r ak=>ak=s∧((r = .bool true∧xs=[])∨r = .bool false)) X:=by
 refine a6.kA (by simp [Go.Proofs.YtnafpeohfbglmaaGreat.gH,ai]) fun ro B a w p aK=>?_
 obtain ⟨info,d,aa,ad,aj,a8,bB,gp⟩:=aR.parts aM;have hu:=aK.aN ab;have ay:∃ e,d = .slice e:=by
  rw [bw] at aj;cases d<;>simp [en] at aj<;>exact ⟨_,rfl⟩
 obtain ⟨e',rfl⟩:=ay;have cR:∀ q,(binOp .eql t (a.eval x) (.slice none 0 0)).run P w = .ok (.bool q) w→(∀ c,a.eval x ≠ .agg c)→(execOp a.eval o).run P w = .ok (.value (.bool q)) w:=by
  intro q bn aD;unfold execOp;rw [ai];refine gW ?_;show (do eqGuard .eql t x (.const (.slice none 0 0)) (a.eval x) (.slice none 0 0);binOp .eql t (a.eval x) (.slice none 0 0):Sem Value).run P w=_;rw [aa',th w ⟨fun _=>⟨_,rfl⟩,aD⟩,i7,bn]
 generalize a.eval x=dN at hu cR;cases hu with
 | hY _ _ _=>exact ⟨_,_,s,p,.bool true,cR true (vZ C C (fun d=>by simp [Op.equalIn,run_underlying ad])).1 bc,.refl w p,.refl s w p,aK.wf,⟨rfl,.inl ⟨rfl,rfl⟩⟩,.bool _⟩
 | iA a _ _ _=>exact ⟨_,_,s,p,.bool false,cR false (vZ C C (fun d=>by simp [Op.equalIn,run_underlying ad])).1 bc,.refl w p,.refl s w p,aK.wf,⟨rfl,.inr C⟩,.bool _⟩
 | aG g off n cap _ vs _ _ aB aC aD aE au hm aA b9 ai=>exact ⟨_,_,s,p,.bool false,cR false (vZ C C (fun d=>by simp [Op.equalIn,run_underlying ad])).1 bc,.refl w p,.refl s w p,aK.wf,⟨rfl,.inr C⟩,.bool _⟩
def aL (J:ao→Prop) (P:Program) (Γ:cw) (N:Nat) (l:List Oper) (i:Nat) (rest:List Oper) (Q:b3→Env→ao→Prop) (env:Env) (s:ao):Prop:=
 r5 l.toArray=true→l.drop i=rest→J s→bq J P Γ N l.toArray Q (bX (2^i-1)) env s
theorem Dz (i:Nat):(2^i-1)|||2^i=2^(i+1)-1:=by
 apply an';intro j;rw [Nat.testBit_or,ai1,ai1,Nat.testBit_two_pow];by_cases h:i=j
 ·subst h;simp
 ·by_cases ad:j<i
  ·simp [ad];omega
  ·simp [ad,h];omega
theorem wY {α:Type} {l:List α} {i:Nat} {o:α} {rest:List α} (h:l.drop i=o::rest):l[i]? = some o∧l.drop (i+1)=rest:=by
 have aa:l[i]? = some o:=by
  have:=ae6 (fun x=>x[0]?) h;simpa using this
 refine ⟨aa,?_⟩;have:l.drop (i+1)=(l.drop i).drop 1:=by rw [List.drop_drop]
 rw [this,h];rfl
theorem GS {l:List Oper} (dB:r5 l.toArray=true) {i:Nat} {o:Oper} (ai:l[i]? = some o):hn l.toArray (bX (2^i-1)) i:=by
 refine ⟨by simpa using (t7.1 ai).1,?_,fun j aI=>?_⟩
 ·simp [bX,ai1]
 ·have:=(FZ dB).back i j aI
  simp [bX,ai1,this]
section
variable {J:ao→Prop} {P:Program} {Γ:cw} {N:Nat} {l:List Oper} {i:Nat} {rest:List Oper} {Q:b3→Env→ao→Prop} {env:Env} {s:ao} {o:Oper} {d:Nat}
theorem af.l4 (aR:bR P Γ) (hm:P.follows .mixedOrders=true) {id:Nat} (dB:r5 l.toArray=true) (h:aL (fun ak=>ak=s) P Γ N l 0 l Q env s):af P N (.region id l.toArray true) Q env s:=
 af.qV _ aR hm dB (h dB C C)
theorem af.nT (aR:bR P Γ) (hm:P.follows .mixedOrders=true) {id:Nat} (dB:r5 l.toArray=true) (h:aL nQ P Γ N l 0 l Q env s):af P N (.region id l.toArray true) Q env s:=
 af.qV _ aR hm dB (h dB C trivial)
theorem aL.nil (h:Q .normal env s):aL J P Γ N l i [] Q env s:=fun dB jz _=>by
 refine bq.fin (fun j aI=>?_) h;have:l.length≤i:=by simpa using jz
 have aI:j<l.length:=by simpa using aI
 simp [bX,ai1];omega
theorem aL.still {v:ah} (ay:o.dst=some d) (a1:d<N) (ar:Still J P Γ N l.toArray o (b2 l env o) v) (h:aL J P Γ N l (i+1) rest Q ((d,v)::env) s):aL J P Γ N l i (o::rest) Q env s:=fun dB jz c9=>by
 obtain ⟨ai,q7⟩:=wY jz;refine bq.still c9 i o d v (GS dB ai) (by simpa using ai) ay a1 ar ?_;rw [pa,Dz];exact h dB q7 c9
theorem aL.step {v:ah} (aM:wE Γ N l.toArray (b2 l env o) o=some (d,v)) (h:aL J P Γ N l (i+1) rest Q ((d,v)::env) s):aL J P Γ N l i (o::rest) Q env s:=by
 obtain ⟨aa,ad,aj⟩:=CY (J:=J) (P:=P) aM;exact aL.still aa ad aj h
def runK (Γ:cw) (N:Nat) (ops:Array Oper):List Oper→Nat→Env→List Oper×Nat×Env
  | [],i,env=>([],i,env)
  | o::l,i,env=>match wE Γ N ops (iF env (looks ops o)) o with
    | some (d,v)=>runK Γ N ops l (i+1) ((d,v)::env)
    | none=>(o::l,i,env)
theorem aL.run {LL:List Oper} {Cu:Nat} {eU:Env} (h:runK Γ N l.toArray rest i env=(LL,Cu,eU)) (aA:aL J P Γ N l Cu LL Q eU s):aL J P Γ N l i rest Q env s:=by
 induction rest generalizing i env with
 | nil=>simp only [runK,Prod.mk.injEq] at h;obtain ⟨rfl,rfl,rfl⟩:=h;exact aA
 | cons o r aW=>
  simp only [runK] at h;split at h
  ·rename_i d v aM
   exact aL.step aM (aW h)
  ·simp only [Prod.mk.injEq] at h;obtain ⟨rfl,rfl,rfl⟩:=h;exact aA
theorem aL.pure {v:ah} (aq:c8 l env o) (ay:o.dst=some d) (a1:z2 d N=true) (ar:lW Γ o (b2 l env o) v) (h:aL J P Γ N l (i+1) rest Q ((d,v)::env) s):aL J P Γ N l i (o::rest) Q env s:=
 aL.still ay C1 (.inl ⟨aq,ar⟩) h
theorem aL.iE {v:ah} (aq:c8 l env o) (ay:o.dst=some d) (a1:z2 d N=true) (ar:wq Γ o (b2 l env o)=some v) (h:aL J P Γ N l (i+1) rest Q ((d,v)::env) s):aL J P Γ N l i (o::rest) Q env s:=
 aL.pure aq ay a1 (.x ar) h
theorem aL.calm {v:ah} (aq:c8 l env o) (ay:o.dst=some d) (a1:z2 d N=true) (ar:∀ s,J s→a6 P N o (b2 l env o) s (fun x ak=>x=v∧ak=s) (fun _ _=>False)) (h:aL J P Γ N l (i+1) rest Q ((d,v)::env) s):aL J P Γ N l i (o::rest) Q env s:=
 aL.still ay C1 (.inr (.inr ⟨aq,ar⟩)) h
theorem aL.idx {t e:TypeId} {x y:Operand} {it aH:bQ} {sz:Nat} {xs:List ah} {own:bV} {k:IntKind} {n:Int} (j:Nat) {v:ah} {cs:List ah} (aq:c8 l env o) (ay:o.dst=some d) (a1:z2 d N=true) (b1:o.op = .indexAddr t x y) (aM:Γ.get? t=some it) (bw:it.bL = .aG e) (bO:Γ.get? e=some aH)
  (ab:aN (b2 l env o) x=some (.aG sz xs own)) (cc:sz=aH.size) (ax:aN (b2 l env o) y=some (.int k n)) (eJ:n=(j:Int)) (aI:xs[j]? = some v) (aD:cellsOf v=some cs)
  (h:aL J P Γ N l (i+1) rest Q ((d,.bA cs 0)::env) s):aL J P Γ N l i (o::rest) Q env s:=
 aL.pure aq ay a1 (.idx j b1 aM bw bO ab cc ax eJ aI aD) h
theorem aL.slice {t e:TypeId} {x:Operand} {fT aS jr:Option Operand} {it aH:bQ} {sz:Nat} {xs:List ah} {own dz:bV} (a b:Nat) (aq:c8 l env o) (ay:o.dst=some d) (a1:z2 d N=true)
  (b1:o.op = .slice t x fT aS jr)
  (aM:Γ.get? t=some it) (bw:it.bL = .aG e) (bO:Γ.get? e=some aH) (ab:aN (b2 l env o) x=some (.aG sz xs own)) (cc:xs=[]∨sz=aH.size)
  (hJ:(fT=none∧a=0)∨∃ y k,fT=some y∧aN (b2 l env o) y=some (.int k (a:Int))) (qM:(aS=none∧jr=none∧b=xs.length)∨∃ y k,aS=some y∧aN (b2 l env o) y=some (.int k (b:Int)))
  (nN:(jr=none∧dz = .bd)∨(∃ y k,jr=some y∧aN (b2 l env o) y=some (.int k (b:Int))∧dz = .clip)) (aC:a≤b) (cN:b≤xs.length)
  (h:aL J P Γ N l (i+1) rest Q ((d,.aG sz ((xs.take b).drop a) dz)::env) s):aL J P Γ N l i (o::rest) Q env s:=
 aL.pure aq ay a1 (.slice a b b1 aM bw bO ab cc hJ qM nN aC cN) h
theorem aL.dL {f:FuncId} {fW:Array Operand} {cZ:Array TypeId} {xs:List ah} {v:ah} (aq:c8 l env o) (ay:o.dst=some d) (a1:z2 d N=true)
  (b1:o.op = .call { callee := .value (.func f),args:=fW,argTypes:=cZ }) (aO:fS (b2 l env o) fW.toList=some xs) (aD:aV P f xs v) (h:aL J P Γ N l (i+1) rest Q ((d,v)::env) s):aL J P Γ N l i (o::rest) Q env s:=
 aL.calm aq ay a1 (fun s _=>(a6.call b1 (fv := .func f [] []) rfl aO (hT.fm (R:=fun o ak=>o = .ret v∧ak=s) (by simpa using aD s))).mono (fun x ak h=>by cases h.1;exact ⟨rfl,h.2⟩) (fun x ak h=>by cases h.1)) h
theorem aL.l2 {g:Operand} {fv:ah} {fW:Array Operand} {cZ:Array TypeId} {xs:List ah} {v:ah} (aq:c8 l env o) (ay:o.dst=some d) (a1:z2 d N=true)
  (b1:o.op = .call { callee := .value g,args:=fW,argTypes:=cZ }) (ar:aN (b2 l env o) g=some fv) (aO:fS (b2 l env o) fW.toList=some xs) (aD:ej P fv xs v) (h:aL J P Γ N l (i+1) rest Q ((d,v)::env) s):aL J P Γ N l i (o::rest) Q env s:=
 aL.calm aq ay a1 (fun s _=>(a6.call b1 ar aO (aD s)).mono (fun x ak h=>by cases h.1;exact ⟨rfl,h.2⟩) (fun x ak h=>by cases h.1)) h
theorem aL.eC {L R:bb} (aR:bR P Γ) (I:Ok s L) {t T:TypeId} {x:Operand} {dR:bQ} {b off:Nat} {cs:List ah} {v:ah} (aq:c8 l env o) (ay:o.dst=some d) (a1:z2 d N=true)
  (b1:o.op = .load t x) (aM:Γ.get? t=some dR) (ab:aN (b2 l env o) x=some (.ptr b off)) (au:bp L (.own b) (.box T cs) R) (ar:hP dR cs off=some v)
  (h:aL (fun ak=>ak=aU s L) P Γ N l (i+1) rest Q ((d,v)::env) (aU s L)):aL (fun ak=>ak=aU s L) P Γ N l i (o::rest) Q env (aU s L):=
 aL.calm aq ay a1 (fun _ e=>by subst e;exact a6.eC aR I b1 aM ab au ar) h
theorem aL.split (t:Nat) {b:Bool} (ar:env.get? t=some (.bool b)) (di:b=true→aL J P Γ N l i rest Q ((t,.bool true)::env) s) (pc:b=false→aL J P Γ N l i rest Q ((t,.bool false)::env) s):aL J P Γ N l i rest Q env s:=by
 have aa:∀ u,Env.get? ((t,.bool b)::env) u=env.get? u:=fun u=>by
  rw [Env.get?];split
  ·rename_i hu;rw [← ad' hu];exact ar.symm
  ·rfl
 intro dB jz c9;refine bq.congr _ aa ?_;cases b with
 | true=>exact di C dB jz c9
 | false=>exact pc C dB jz c9
theorem aL.gY {t:Nat} {b:Bool} (au:KY l.toArray o=some t) (ar:env.get? t=some (.bool b)) (di:b=true→aL J P Γ N l i (o::rest) Q ((t,.bool true)::env) s) (pc:b=false→aL J P Γ N l i (o::rest) Q ((t,.bool false)::env) s):aL J P Γ N l i (o::rest) Q env s:=
 aL.split t ar di pc
theorem aL.same (b:Bool) (aq:guardOf l.toArray (b2 l env o) o=some b) (h:aL J P Γ N l i (o::rest) Q env s):aL J P Γ N l i (o::rest) Q env s:=h
theorem LM {l:List Oper} (dB:r5 l.toArray=true) {i:Nat} {o:Oper} (jz:l.drop i=[o]):∀ j,hn l.toArray (bX (2^i-1)) j→j=i:=fun j aI=>by
 obtain ⟨ai,q7⟩:=wY jz;have ad:l.length≤i+1:=by simpa using q7
 have aj:j<l.length:=by simpa using aI.1
 have a8:=aI.2.1;simp [bX,ai1] at a8;omega
theorem LN {l:List Oper} {i:Nat} {o:Oper} (jz:l.drop i=[o]):∀ j,j<l.toArray.size→dX (bX (2^i-1)) i j=true:=fun j aI=>by
 obtain ⟨ai,q7⟩:=wY jz;have ad:l.length≤i+1:=by simpa using q7
 have aj:j<l.length:=by simpa using aI
 rw [pa,Dz];simp [bX,ai1];omega
theorem aL.last {K X:ah→ao→Prop} (aq:c8 l env o) (ay:o.dst=some d) (a1:z2 d N=true) (kj:k2 l.toArray i=true) (h:a6 P N o (b2 l env o) s K X)
  (aA:∀ x ak,K x ak→Q .normal ((d,x)::env) ak) (ab:∀ x ak,X x ak→Q (.panic x) [] ak):aL J P Γ N l i [o] Q env s:=fun dB jz _=>by
 obtain ⟨ai,q7⟩:=wY jz;have jb:=GS dB ai;have fo:=LM dB jz;refine bq.split (fun _=>K) (fun _=>X) ⟨i,jb.1,jb.2.1⟩ (fun j o' aI cz=>?_) (fun j o' wF cz x ak bk=>by have:=fo j wF;subst this;exact .inr (C0 kj)) (fun j o' c4 aI cz cg x ak bk=>?_) (fun j o' aI cz cg x ak bk=>?_) (fun j o' aI cz x ak iB=>ab x ak iB)
 ·have:=fo j aI;subst this
  have cz:l[j]? = some o':=by simpa using cz
  rw [ai] at cz;cases cz;exact ⟨aq,h,fun c4 cg=>by rw [ay] at cg;cases cg;simpa [Nat.blt_eq] using a1⟩
 ·have:=fo j aI;subst this
  have cz:l[j]? = some o':=by simpa using cz
  rw [ai] at cz;cases cz;rw [ay] at cg;cases cg;exact bq.fin (LN jz) (aA x ak bk)
 ·have:=fo j aI;subst this
  have cz:l[j]? = some o':=by simpa using cz
  rw [ai] at cz;cases cz;rw [ay] at cg;cases cg
theorem aL.GU {K X:ah→ao→Prop} (aq:c8 l env o) (ay:o.dst=none) (kj:k2 l.toArray i=true) (h:a6 P N o (b2 l env o) s K X)
  (aA:∀ x ak,K x ak→Q .normal env ak) (ab:∀ x ak,X x ak→Q (.panic x) [] ak):aL J P Γ N l i [o] Q env s:=fun dB jz _=>by
 obtain ⟨ai,q7⟩:=wY jz;have jb:=GS dB ai;have fo:=LM dB jz;refine bq.split (fun _=>K) (fun _=>X) ⟨i,jb.1,jb.2.1⟩ (fun j o' aI cz=>?_) (fun j o' wF cz x ak bk=>by have:=fo j wF;subst this;exact .inr (C0 kj)) (fun j o' c4 aI cz cg x ak bk=>?_) (fun j o' aI cz cg x ak bk=>?_) (fun j o' aI cz x ak iB=>ab x ak iB)
 ·have:=fo j aI;subst this
  have cz:l[j]? = some o':=by simpa using cz
  rw [ai] at cz;cases cz;exact ⟨aq,h,fun c4 cg=>by rw [ay] at cg;cases cg⟩
 ·have:=fo j aI;subst this
  have cz:l[j]? = some o':=by simpa using cz
  rw [ai] at cz;cases cz;rw [ay] at cg;cases cg
 ·have:=fo j aI;subst this
  have cz:l[j]? = some o':=by simpa using cz
  rw [ai] at cz;cases cz;exact bq.fin (LN jz) (aA x ak bk)
theorem aL.cX {L R:bb} (aR:bR P Γ) (I:Ok s L) {t T:TypeId} {x y:Operand} {dR:bQ} {b off:Nat} {cs us:List ah} {v:ah} (aq:c8 l env o) (ay:o.dst=none) (kj:k2 l.toArray i=true)
  (b1:o.op = .store t x y) (aM:Γ.get? t=some dR) (ab:aN (b2 l env o) x=some (.ptr b off)) (ax:aN (b2 l env o) y=some v)
  (ar:cellsOf v=some us) (hu:af2 us.length dR.size=true) (aa:us.all fb=true) (au:bp L (.own b) (.box T cs) R) (fB:Nat.ble (off+us.length) cs.length=true)
  (h:Ok s ((.own b,.box T (eV off us cs))::R)→Q .normal env (aU s ((.own b,.box T (eV off us cs))::R))):aL J P Γ N l i [o] Q env (aU s L):=
 aL.GU aq ay kj (a6.cX aR I b1 aM ab ax ar hu aa au fB (X:=fun _ _=>False)) (fun x ak ⟨aa,ad⟩=>by subst aa;exact h ad) (fun _ _ h=>h.elim)
theorem aL.b4 {L R K:bb} {aeb:eB→bb→Prop} {f:FuncId} {fW:Array Operand} {cZ:Array TypeId} {xs:List ah} (aq:c8 l env o) (ay:o.dst=some d) (a1:z2 d N=true) (kj:k2 l.toArray i=true)
  (b1:o.op = .call { callee := .value (.func f),args:=fW,argTypes:=cZ }) (aO:fS (b2 l env o) fW.toList=some xs) (h:bI P f xs K aeb) (I:Ok s L) (au:aJ L K R)
  (aA:∀ x aQ,aeb (.ret x) aQ→Ok s (aQ++R)→Q .normal ((d,x)::env) (aU s (aQ++R))) (ab:∀ x aQ,aeb (.panic x) aQ→Ok s (aQ++R)→Q (.panic x) [] (aU s (aQ++R))):aL J P Γ N l i [o] Q env (aU s L):=
 aL.last aq ay a1 kj (a6.b4 b1 aO h I au) (fun x ak ⟨aQ,aa,ad,aj⟩=>by subst aa;exact aA x aQ aj ad) (fun x ak ⟨aQ,aa,ad,aj⟩=>by subst aa;exact ab x aQ aj ad)
theorem aL.yA {K X:ah→ao→Prop} (aq:c8 l env o) (ay:o.dst=some d) (a1:z2 d N=true) (aE:eP l.toArray (2^i-1) (idxs 0 l)=[i]) (h:a6 P N o (b2 l env o) s K X) (aI:∀ x ak,K x ak→J ak)
  (aA:∀ x ak,K x ak→aL J P Γ N l (i+1) rest Q ((d,x)::env) ak) (ab:∀ x ak,X x ak→Q (.panic x) [] ak):aL J P Γ N l i (o::rest) Q env s:=fun dB jz _=>by
 obtain ⟨ai,q7⟩:=wY jz;refine bq.one aE (by simpa using ai) ay a1 aq h (fun x ak bk => .inl (aI x ak bk)) (fun x ak bk=>?_) ab;rw [Dz];exact aA x ak bk dB q7 (aI x ak bk)
theorem aL.UP {K X:ah→ao→Prop} (aq:c8 l env o) (ay:o.dst=none) (aE:eP l.toArray (2^i-1) (idxs 0 l)=[i]) (h:a6 P N o (b2 l env o) s K X) (aI:∀ x ak,K x ak→J ak)
  (aA:∀ x ak,K x ak→aL J P Γ N l (i+1) rest Q env ak) (ab:∀ x ak,X x ak→Q (.panic x) [] ak):aL J P Γ N l i (o::rest) Q env s:=fun dB jz _=>by
 obtain ⟨ai,q7⟩:=wY jz;refine bq.yk aE (by simpa using ai) ay aq h (fun x ak bk => .inl (aI x ak bk)) (fun x ak bk=>?_) ab;rw [Dz];exact aA x ak bk dB q7 (aI x ak bk)
theorem aL.yB {L:bb} (aR:bR P Γ) (I:Ok s L) {t:TypeId} {dR:bQ} {z:ah} {cs:List ah} (aq:c8 l env o) (ay:o.dst=some d) (a1:z2 d N=true) (aE:eP l.toArray (2^i-1) (idxs 0 l)=[i])
  (b1:o.op = .alloc t) (aM:Γ.get? t=some dR) (bG:hF dR.zero=some z) (aD:cellsOf z=some cs)
  (h:∀ b,Ok s ((.own b,.box t cs)::L)→aL nQ P Γ N l (i+1) rest Q ((d,.ptr b 0)::env) (aU s ((.own b,.box t cs)::L))):aL nQ P Γ N l i (o::rest) Q env (aU s L):=
 aL.yA aq ay a1 aE (a6.dZ aR I b1 aM bG aD (X:=fun _ _=>False)) (fun _ _ _=>trivial) (fun x ak ⟨b,aa,ad,aj⟩=>by subst aa;subst ad;exact h b aj) (fun _ _ h=>h.elim)
theorem aL.storeT {L R:bb} (aR:bR P Γ) (I:Ok s L) {t T:TypeId} {x y:Operand} {dR:bQ} {b off:Nat} {cs us:List ah} {v:ah} (aq:c8 l env o) (ay:o.dst=none) (aE:eP l.toArray (2^i-1) (idxs 0 l)=[i])
  (b1:o.op = .store t x y) (aM:Γ.get? t=some dR) (ab:aN (b2 l env o) x=some (.ptr b off)) (ax:aN (b2 l env o) y=some v)
  (ar:cellsOf v=some us) (hu:af2 us.length dR.size=true) (aa:us.all fb=true) (au:bp L (.own b) (.box T cs) R) (fB:Nat.ble (off+us.length) cs.length=true)
  (h:Ok s ((.own b,.box T (eV off us cs))::R)→aL nQ P Γ N l (i+1) rest Q env (aU s ((.own b,.box T (eV off us cs))::R))):aL nQ P Γ N l i (o::rest) Q env (aU s L):=
 aL.UP aq ay aE (a6.cX aR I b1 aM ab ax ar hu aa au fB (X:=fun _ _=>False)) (fun _ _ _=>trivial) (fun x ak ⟨aa,ad⟩=>by subst aa;exact h ad) (fun _ _ h=>h.elim)
theorem aL.loadT {L R:bb} (aR:bR P Γ) (I:Ok s L) {t T:TypeId} {x:Operand} {dR:bQ} {b off:Nat} {cs:List ah} {v:ah} (aq:c8 l env o) (ay:o.dst=some d) (a1:z2 d N=true) (aE:eP l.toArray (2^i-1) (idxs 0 l)=[i])
  (b1:o.op = .load t x) (aM:Γ.get? t=some dR) (ab:aN (b2 l env o) x=some (.ptr b off)) (au:bp L (.own b) (.box T cs) R) (ar:hP dR cs off=some v)
  (h:aL nQ P Γ N l (i+1) rest Q ((d,v)::env) (aU s L)):aL nQ P Γ N l i (o::rest) Q env (aU s L):=
 aL.yA aq ay a1 aE (a6.eC aR I b1 aM ab au ar (X:=fun _ _=>False)) (fun _ _ _=>trivial) (fun x ak ⟨aa,ad⟩=>by subst aa;subst ad;exact h) (fun _ _ h=>h.elim)
theorem aL.kH {L R K:bb} {aeb:eB→bb→Prop} {f:FuncId} {fW:Array Operand} {cZ:Array TypeId} {xs:List ah} (aq:c8 l env o) (ay:o.dst=some d) (a1:z2 d N=true) (aE:eP l.toArray (2^i-1) (idxs 0 l)=[i])
  (b1:o.op = .call { callee := .value (.func f),args:=fW,argTypes:=cZ }) (aO:fS (b2 l env o) fW.toList=some xs) (h:bI P f xs K aeb) (I:Ok s L) (au:aJ L K R)
  (aA:∀ x aQ,aeb (.ret x) aQ→Ok s (aQ++R)→aL nQ P Γ N l (i+1) rest Q ((d,x)::env) (aU s (aQ++R))) (ab:∀ x aQ,aeb (.panic x) aQ→Ok s (aQ++R)→Q (.panic x) [] (aU s (aQ++R))):aL nQ P Γ N l i (o::rest) Q env (aU s L):=
 aL.yA aq ay a1 aE (a6.b4 b1 aO h I au) (fun _ _ _=>trivial) (fun x ak ⟨aQ,aa,ad,aj⟩=>by subst aa;exact aA x aQ aj ad) (fun x ak ⟨aQ,aa,ad,aj⟩=>by subst aa;exact ab x aQ aj ad)
end
def yC (i:bQ):Bool:=match i.bL with
 | .struct _=>false
 | .arr _ _=>false
 | .other=>false
 | _=>true
theorem UQ {cs:List ah} {off:Nat} {v:ah} (h:cs[off]? = some v):qG off cs=some (v::cs.drop (off+1)):=by
 induction off generalizing cs with
 | zero=>
  cases cs with
  | nil=>cases h
  | cons x r=>simp at h;subst h;rfl
 | succ n aW=>
  cases cs with
  | nil=>cases h
  | cons x r=>
   have:=aW (cs:=r) hx;simp only [qG,List.drop_succ_cons];exact this
theorem p4 {i:bQ} {cs:List ah} {off:Nat} {v:ah} (aa:yC i=true) (h:cs[off]? = some v):hP i cs off=some v:=by
 unfold hP yC at *;rw [UQ h];simp only;split at aa<;>simp_all
section
variable {J:ao→Prop} {P:Program} {Γ:cw} {N:Nat} {ops:Array Oper} {l:List Oper} {i:Nat} {rest:List Oper} {Q:b3→Env→ao→Prop} {env:Env} {s:ao} {o:Oper} {d:Nat}
theorem a6.LO (aR:bR P Γ) {t:TypeId} {x:Operand} {dR:bQ} {off:Nat} {cs:List ah} {v:ah} (b1:o.op = .load t x) (aM:Γ.get? t=some dR) (ab:aN env x=some (.bA cs off)) (ar:hP dR cs off=some v) :
  a6 P N o env s (fun x ak=>x=v∧ak=s) (fun _ _=>False):=
 a6.nI (by simp [gH,b1]) fun ro B a w p aK=>Kd aR aK b1 aM ab ar
theorem ae.AO (aR:bR P Γ) {t:TypeId} {x:Operand} {dR:bQ} {off:Nat} {cs:List ah} {v:ah} (aq:guardOf ops env o=some true) (ay:o.dst=some d) (a1:z2 d N=true) (b1:o.op = .load t x) (aM:Γ.get? t=some dR) (ab:aN env x=some (.bA cs off)) (aa:yC dR=true) (ar:cs[off]? = some v)
  (h:ae P N ops rest Q ((d,v)::env) s):ae P N ops (o::rest) Q env s:=
 ae.op aq ay a1 (a6.LO aR b1 aM ab (p4 aa ar)) (fun x ak ⟨aa,ad⟩=>by subst aa;subst ad;exact h) (fun _ _ h=>h.elim)
theorem aL.AO (aR:bR P Γ) {t:TypeId} {x:Operand} {dR:bQ} {off:Nat} {cs:List ah} {v:ah} (aq:c8 l env o) (ay:o.dst=some d) (a1:z2 d N=true) (b1:o.op = .load t x) (aM:Γ.get? t=some dR) (ab:aN (b2 l env o) x=some (.bA cs off)) (aa:yC dR=true) (ar:cs[off]? = some v)
  (h:aL J P Γ N l (i+1) rest Q ((d,v)::env) s):aL J P Γ N l i (o::rest) Q env s:=
 aL.calm aq ay a1 (fun s _=>a6.LO aR b1 aM ab (p4 aa ar)) h
theorem ae.lF {L R:bb} (aR:bR P Γ) (I:Ok s L) {t T:TypeId} {x:Operand} {dR:bQ} {b off:Nat} {cs:List ah} {v:ah} (aq:guardOf ops env o=some true) (ay:o.dst=some d) (a1:z2 d N=true) (b1:o.op = .load t x) (aM:Γ.get? t=some dR) (ab:aN env x=some (.ptr b off)) (au:bp L (.own b) (.box T cs) R) (aa:yC dR=true) (ar:cs[off]? = some v)
  (h:ae P N ops rest Q ((d,v)::env) (aU s L)):ae P N ops (o::rest) Q env (aU s L):=
 ae.eC aR I aq ay a1 b1 aM ab au (p4 aa ar) h
theorem aL.lF {L R:bb} (aR:bR P Γ) (I:Ok s L) {t T:TypeId} {x:Operand} {dR:bQ} {b off:Nat} {cs:List ah} {v:ah} (aq:c8 l env o) (ay:o.dst=some d) (a1:z2 d N=true) (b1:o.op = .load t x) (aM:Γ.get? t=some dR) (ab:aN (b2 l env o) x=some (.ptr b off)) (au:bp L (.own b) (.box T cs) R) (aa:yC dR=true) (ar:cs[off]? = some v)
  (h:aL (fun ak=>ak=aU s L) P Γ N l (i+1) rest Q ((d,v)::env) (aU s L)):aL (fun ak=>ak=aU s L) P Γ N l i (o::rest) Q env (aU s L):=
 aL.eC aR I aq ay a1 b1 aM ab au (p4 aa ar) h
theorem aL.l7 (aR:bR P Γ) {t e:TypeId} {x y:Operand} {it aH:bQ} {k:IntKind} {len off:Nat} {cs:List ah} {z:Int} (j:Nat) (aq:c8 l env o) (ay:o.dst=some d) (a1:z2 d N=true) (ai:o.op = .indexAddr t x y) (aM:Γ.get? t=some it) (bw:it.bL = .arr len e) (bO:Γ.get? e=some aH) (ab:aN (b2 l env o) x=some (.bA cs off)) (ax:aN (b2 l env o) y=some (.int k z)) (eJ:z=(j:Int)) (aI:j<len)
  (h:aL J P Γ N l (i+1) rest Q ((d,.bA cs (off+j*aH.size))::env) s):aL J P Γ N l i (o::rest) Q env s:=
 aL.calm aq ay a1 (fun s _=>a6.l7 aR ai aM bw bO ab ax eJ aI) h
theorem aL.arr (aR:bR P Γ) {t e:TypeId} {x y:Operand} {it aH:bQ} {k:IntKind} {len b off:Nat} {z:Int} (j:Nat) (aq:c8 l env o) (ay:o.dst=some d) (a1:z2 d N=true) (ai:o.op = .indexAddr t x y) (aM:Γ.get? t=some it) (bw:it.bL = .arr len e) (bO:Γ.get? e=some aH) (ab:aN (b2 l env o) x=some (.ptr b off)) (ax:aN (b2 l env o) y=some (.int k z)) (eJ:z=(j:Int)) (aI:j<len)
  (h:aL J P Γ N l (i+1) rest Q ((d,.ptr b (off+j*aH.size))::env) s):aL J P Γ N l i (o::rest) Q env s:=
 aL.calm aq ay a1 (fun s _=>a6.arr aR ai aM bw bO ab ax eJ aI) h
theorem aL.mK {L R:bb} (aR:bR P Γ) (I:Ok s L) {t T:TypeId} {x y:Operand} {dR:bQ} {b off:Nat} {cs us:List ah} {v:ah} (cs':List ah) (aq:c8 l env o) (ay:o.dst=none) (kj:k2 l.toArray i=true)
  (b1:o.op = .store t x y) (aM:Γ.get? t=some dR) (ab:aN (b2 l env o) x=some (.ptr b off)) (ax:aN (b2 l env o) y=some v)
  (ar:cellsOf v=some us) (hu:af2 us.length dR.size=true) (aa:us.all fb=true) (au:bp L (.own b) (.box T cs) R) (fB:off+us.length≤cs.length) (he:eV off us cs=cs')
  (h:Ok s ((.own b,.box T cs')::R)→Q .normal env (aU s ((.own b,.box T cs')::R))):aL J P Γ N l i [o] Q env (aU s L):=by
 subst he;exact aL.cX aR I aq ay kj b1 aM ab ax ar hu aa au (by simpa [Nat.ble_eq] using fB) h
theorem ae.mK {L R:bb} (aR:bR P Γ) (I:Ok s L) {t T:TypeId} {x y:Operand} {dR:bQ} {b off:Nat} {cs us:List ah} {v:ah} (cs':List ah) (aq:guardOf ops env o=some true) (ay:o.dst=none)
  (b1:o.op = .store t x y) (aM:Γ.get? t=some dR) (ab:aN env x=some (.ptr b off)) (ax:aN env y=some v)
  (ar:cellsOf v=some us) (hu:af2 us.length dR.size=true) (aa:us.all fb=true) (au:bp L (.own b) (.box T cs) R) (fB:off+us.length≤cs.length) (he:eV off us cs=cs')
  (h:Ok s ((.own b,.box T cs')::R)→ae P N ops rest Q env (aU s ((.own b,.box T cs')::R))):ae P N ops (o::rest) Q env (aU s L):=by
 subst he;exact ae.cX aR I aq ay b1 aM ab ax ar hu aa au (by simpa [Nat.ble_eq] using fB) h
theorem si {off:Nat} {v:ah}:∀ {cs:List ah},eV off [v] cs=cs.set off v:=by
  induction off with
  | zero=>intro cs;cases cs<;>rfl
  | succ n aW=>intro cs;cases cs with
    | nil=>rfl
    | cons x r=>exact ae6 (x :: ·) (aW (cs:=r))
theorem ae.k5 {f:FuncId} {fW:Array Operand} {cZ:Array TypeId} {xs ys:List ah} {v:ah} (aq:guardOf ops env o=some true) (ay:o.dst=some d) (a1:z2 d N=true)
  (b1:o.op = .call { callee := .value (.func f),args:=fW,argTypes:=cZ }) (aO:fS env fW.toList=some xs) (h:aV P f ys v) (aC:cS xs ys) (aA:ae P N ops rest Q ((d,v)::env) s):ae P N ops (o::rest) Q env s:=
 ae.dL aq ay a1 b1 aO (aV.args aC h) aA
theorem aL.k5 {f:FuncId} {fW:Array Operand} {cZ:Array TypeId} {xs ys:List ah} {v:ah} (aq:c8 l env o) (ay:o.dst=some d) (a1:z2 d N=true)
  (b1:o.op = .call { callee := .value (.func f),args:=fW,argTypes:=cZ }) (aO:fS (b2 l env o) fW.toList=some xs) (aD:aV P f ys v) (aC:cS xs ys) (h:aL J P Γ N l (i+1) rest Q ((d,v)::env) s):aL J P Γ N l i (o::rest) Q env s:=
 aL.dL aq ay a1 b1 aO (aV.args aC aD) h
theorem af.q8 {L R:bb} (I:Ok s L) (b:Nat) {dA:dy} (au:bp L (.own b) dA R) (aR:bR P Γ) (hm:P.follows .mixedOrders=true) {id:Nat} (dB:r5 l.toArray=true) (h:aL (fun ak=>ak b=some dA) P Γ N l 0 l Q env (aU s L)):af P N (.region id l.toArray true) Q env (aU s L):=
 af.qV _ aR hm dB (h dB C (au.get I))
theorem aL.r9 (aR:bR P Γ) {t T:TypeId} {x:Operand} {dR:bQ} {b off:Nat} {cs:List ah} {v:ah} (aq:c8 l env o) (ay:o.dst=some d) (a1:z2 d N=true)
  (b1:o.op = .load t x) (aM:Γ.get? t=some dR) (ab:aN (b2 l env o) x=some (.ptr b off)) (ar:hP dR cs off=some v)
  (h:aL (fun ak=>ak b=some (.box T cs)) P Γ N l (i+1) rest Q ((d,v)::env) s):aL (fun ak=>ak b=some (.box T cs)) P Γ N l i (o::rest) Q env s:=
 aL.calm aq ay a1 (fun s c9=>a6.uH aR b1 aM ab c9 ar) h
theorem aL.AP {L R K:bb} {aeb:eB→bb→Prop} {b:Nat} {dA:dy} {g:Operand} {fv:ah} {fW:Array Operand} {cZ:Array TypeId} {xs:List ah} (aq:c8 l env o) (ay:o.dst=some d) (a1:z2 d N=true) (aE:eP l.toArray (2^i-1) (idxs 0 l)=[i])
  (b1:o.op = .call { callee := .value g,args:=fW,argTypes:=cZ }) (ar:aN (b2 l env o) g=some fv) (aO:fS (b2 l env o) fW.toList=some xs) (h:ds P fv xs K aeb) (I:Ok s L) (au:aJ L K R)
  (aI:∀ x aQ,aeb (.ret x) aQ→∃ du,bp (aQ++R) (.own b) dA du)
  (aA:∀ x aQ,aeb (.ret x) aQ→Ok s (aQ++R)→aL (fun ak=>ak b=some dA) P Γ N l (i+1) rest Q ((d,x)::env) (aU s (aQ++R))) (ab:∀ x aQ,aeb (.panic x) aQ→Ok s (aQ++R)→Q (.panic x) [] (aU s (aQ++R))):aL (fun ak=>ak b=some dA) P Γ N l i (o::rest) Q env (aU s L):=
 aL.yA aq ay a1 aE (a6.gM b1 ar aO h I au) (fun x ak ⟨aQ,aa,ad,aj⟩=>by subst aa;obtain ⟨du,hK⟩:=aI x aQ aj;exact hK.get ad) (fun x ak ⟨aQ,aa,ad,aj⟩=>by subst aa;exact aA x aQ aj ad) (fun x ak ⟨aQ,aa,ad,aj⟩=>by subst aa;exact ab x aQ aj ad)
theorem aL.UR {L R K:bb} {aeb:eB→bb→Prop} {g:Operand} {fv:ah} {fW:Array Operand} {cZ:Array TypeId} {xs:List ah} (aq:c8 l env o) (ay:o.dst=some d) (a1:z2 d N=true) (aE:eP l.toArray (2^i-1) (idxs 0 l)=[i])
  (b1:o.op = .call { callee := .value g,args:=fW,argTypes:=cZ }) (ar:aN (b2 l env o) g=some fv) (aO:fS (b2 l env o) fW.toList=some xs) (h:ds P fv xs K aeb) (I:Ok s L) (au:aJ L K R)
  (aA:∀ x aQ,aeb (.ret x) aQ→Ok s (aQ++R)→aL nQ P Γ N l (i+1) rest Q ((d,x)::env) (aU s (aQ++R))) (ab:∀ x aQ,aeb (.panic x) aQ→Ok s (aQ++R)→Q (.panic x) [] (aU s (aQ++R))):aL nQ P Γ N l i (o::rest) Q env (aU s L):=
 aL.yA aq ay a1 aE (a6.gM b1 ar aO h I au) (fun _ _ _=>trivial) (fun x ak ⟨aQ,aa,ad,aj⟩=>by subst aa;exact aA x aQ aj ad) (fun x ak ⟨aQ,aa,ad,aj⟩=>by subst aa;exact ab x aQ aj ad)
end
theorem US {w:World} {p:bU} {s:ao} (ca:dq w p s) {vs:List Value} {xs:List ah} {sz cap:Nat} {e:TypeId} {cur:Array Value} (aE:bH w p vs xs)
    (au:∀ v∈vs,v.cells.size=sz) (o2:cur.size=cap*sz) (wj:cur.toList.take (xs.length*sz)=flat vs) (kD:xs.length≤cap) (hm:xs.length≤9223372036854775807) :
    ∃ bh,s w.heap.size=none∧de w p (w.alloc (.cells cur e)) bh∧Kept s (s.set w.heap.size (.row e sz xs.length)) w p (w.alloc (.cells cur e)) bh ∧
      dq (w.alloc (.cells cur e)) bh (s.set w.heap.size (.row e sz xs.length))∧Rel (w.alloc (.cells cur e)) bh (.slice (some ⟨w.heap.size,0,none⟩) xs.length cap) (.aG sz xs (.own w.heap.size)):=by
  have aB:s w.heap.size=none:=by
    cases h:s w.heap.size with
    | none=>rfl
    | some o'=>exact absurd (ca.obj _ _ h).lt ag
  let bh:bU:=fun b o=>p b o∨(b=w.heap.size∧o<xs.length*sz)
  have o3:(w.alloc (.cells cur e)).heap[w.heap.size]? = some (.cells cur e):=uA w _;have hold:∀ b,b<w.heap.size→(w.alloc (.cells cur e)).heap[b]? = w.heap[b]? := fun b an=>mv w _ b an
  have hle:de w p (w.alloc (.cells cur e)) bh:=de.of_heap C C C bc (fun _ _ h => .inl h) ca.lt hold;have hlen:=wi au;have hmul:xs.length*sz≤cap*sz:=am9 _ kD;refine ⟨bh,aB,hle,⟨fun b an _=>hold b an,fun b an au=>by rw [ao.fA _ _ ag];exact au,fun b o an _ aF=>by rcases aF with aF|⟨rfl,_⟩;exact aF;omega⟩,?_,?_⟩
  · have aq:dq (w.alloc (.cells cur e)) bh s:=ca.grow hle hold (fun b o an aF=>by rcases aF with aF|⟨rfl,_⟩;exact aF;omega) (fun b o aF=>by
      rcases aF with aF|⟨rfl,_⟩
      · have:=ca.lt b o aF;simp;omega
      · simp)
    refine ⟨fun b o an=>?_,aq.lt⟩;by_cases e':b=w.heap.size
    · subst e'
      rw [ao.gr] at an;cases an;refine ⟨cur,o3,by omega,⟨cap,o2⟩,fun o=>⟨fun aF=>?_,fun ai => .inr ⟨rfl,ai⟩⟩⟩;rcases aF with aF|⟨_,ai⟩
      · exact absurd (ca.lt _ _ aF) ag
      · exact ai
    · rw [ao.fA _ _ e'] at an;exact aq.obj b o an
  · refine .aG _ 0 _ _ _ vs _ _ bc rfl ?_ (aE.mono hle) au hm kD (fun h=>by cases h) (fun b an=>?_)
    · intro i v ar
      have aS:i<xs.length*sz:=by
        have:=(t7.1 ar).1;rw [hlen,aE.length] at this;exact this
      refine ⟨.inr ⟨rfl,by omega⟩,?_⟩;rw [af6,jH o3];rw [← wj,ai2,f7 aS] at ar;simpa using ar
    · cases an
      exact ⟨rfl,rfl,e,by simp only [World.kU,o3,o2]⟩
theorem LP {z:Value} (h:z.cells = #[z]) (n:Nat):(madeCells z.cells n).toList=H1 n z:=by
 refine List.ext_getElem? fun i=>?_
 unfold madeCells;rw [h];simp only [Array.toList_map,Array.toList_range,ae7,List.getElem?_replicate];by_cases aS:i<n
 ·rw [List.getElem?_range aS,f7 aS]
  simp [Nat.mod_one]
 ·rw [List.getElem?_eq_none cL,d7 aS];rfl
section
variable {P:Program} {Γ:cw} {N:Nat} {ops:Array Oper} {Q:b3→Env→ao→Prop} {env:Env} {s:ao} {l:List Oper} {o:Oper} {d:Nat} {L R:bb}
theorem LQ (aR:bR P Γ) {t e:TypeId} {it aH:bQ} (aM:Γ.get? t=some it) (bw:it.bL = .aG e) (bO:Γ.get? e=some aH) (nO p5:IntKind) (n c:Nat) (tL:n≤c) (an:c*aH.bytes≤140737488355328) (eA:c≤9223372036854775807) (w:World) :
  (Instr.makeSlice t (.int nO (n:Int)) (.int p5 (c:Int))).run P w = .ok (.slice (some ⟨w.heap.size,0,none⟩) n c) (w.alloc (.cells (madeCells aH.zero.cells (c*aH.size)) e)):=by
 obtain ⟨info,d,g1,g2,g3,-⟩:=aR.parts aM;obtain ⟨jT,kB,cu,c2,fg,eG,jU,jq⟩:=aR.parts bO;have ay:d = .slice e:=by rw [bw] at g3;cases d<;>simp [en] at g3;rw [g3]
 subst ay;have dU:(jT.bytes:Int)*(c:Int)≤281474976710656:=by
  rw [jU];have:((aH.bytes*c:Nat):Int)≤281474976710656:=by rw [Nat.mul_comm];omega
  rwa [Int.natCast_mul] at this
 have:=run_make (P:=P) w t e jT aH.zero g2 cu jq nO p5 (n:Int) (c:Int) ag ag dU ag;rw [i9,i9,eG] at this;exact this
theorem a6.yD (aR:bR P Γ) (I:Ok s L) {t e:TypeId} {x y:Operand} {it aH:bQ} {nO p5:IntKind} {z:ah} (n:Nat) (ai:o.op = .makeSlice t x y) (aM:Γ.get? t=some it) (bw:it.bL = .aG e) (bO:Γ.get? e=some aH) (aa:aH.size=1)
  (u5:aH.zero.oneCell'=true) (bG:hF aH.zero=some z) (ab:aN env x=some (.int nO (n:Int))) (ax:aN env y=some (.int p5 (n:Int))) (an:n*aH.bytes≤140737488355328) (eA:n≤9223372036854775807) {X:ah→ao→Prop} :
  a6 P N o env (aU s L) (fun r ak=>∃ b,r=ee b n n∧ak=aU s ((.own b,.box e (H1 n z))::L)∧Ok s ((.own b,.box e (H1 n z))::L)) X:=by
 refine a6.kA jd fun ro B a w p aK=>?_
 have gh:=aK.aN ab;have fl:=aK.aN ax;generalize eo:a.eval x=dN at gh;generalize fh:a.eval y=gb at fl;cases gh;cases fl;have cR:=LQ aR aM bw bO nO p5 n n (g7 _) an eA w;have uF:=Aw u5;have AQ:=LP uF (n*aH.size);rw [aa,aj3] at cR AQ
 obtain ⟨au,hle,aA,k3⟩:=rY aK.wf (.cells (madeCells aH.zero.cells n) e (0,0)) (.box e (H1 n z)) (fun w' iO ar fz=>⟨_,iO,by
  rw [AQ];exact bH.replicate (qH bG) n,fun o aF=>absurd (aK.wf.lt _ _ aF) ag⟩)
 refine ⟨.slice (some ⟨w.heap.size,0,none⟩) n n,_,_,p,_,?_,hle,aA,k3,⟨w.heap.size,rfl,rfl,au,I⟩,.hE _⟩;unfold execOp;rw [ai];simp only [eo,fh];exact gW cR
theorem ae.yD (aR:bR P Γ) (I:Ok s L) {t e:TypeId} {x y:Operand} {it aH:bQ} {nO p5:IntKind} {z:ah} (n:Nat) (aq:guardOf ops env o=some true) (ay:o.dst=some d) (a1:z2 d N=true) (ai:o.op = .makeSlice t x y) (aM:Γ.get? t=some it) (bw:it.bL = .aG e) (bO:Γ.get? e=some aH) (aa:aH.size=1)
  (u5:aH.zero.oneCell'=true) (bG:hF aH.zero=some z) (ab:aN env x=some (.int nO (n:Int))) (ax:aN env y=some (.int p5 (n:Int))) (an:n*aH.bytes≤140737488355328) (eA:n≤9223372036854775807)
  (h:∀ b,Ok s ((.own b,.box e (H1 n z))::L)→ae P N ops l Q ((d,ee b n n)::env) (aU s ((.own b,.box e (H1 n z))::L))):ae P N ops (o::l) Q env (aU s L):=by
 refine ae.op aq ay a1 (a6.yD aR I n ai aM bw bO aa u5 bG ab ax an eA (X:=fun _ _=>False)) ?_ (fun _ _ h=>h.elim);rintro r ak ⟨b,rfl,rfl,ad⟩;exact h b ad
theorem a6.GV (aR:bR P Γ) (I:Ok s L) {t e:TypeId} {x y:Operand} {it aH:bQ} {nO p5:IntKind} {z:ah} (n c:Nat) (ai:o.op = .makeSlice t x y) (aM:Γ.get? t=some it) (bw:it.bL = .aG e) (bO:Γ.get? e=some aH) (aa:aH.size=1)
  (u5:aH.zero.oneCell'=true) (bG:hF aH.zero=some z) (ab:aN env x=some (.int nO (n:Int))) (ax:aN env y=some (.int p5 (c:Int))) (tL:n≤c) (an:c*aH.bytes≤140737488355328) (eA:c≤9223372036854775807) {X:ah→ao→Prop} :
  a6 P N o env (aU s L) (fun r ak=>∃ b,r = .aG 1 (H1 n z) (.own b)∧ak=aU s ((.own b,.row e 1 n)::L)∧Ok s ((.own b,.row e 1 n)::L)) X:=by
 refine a6.kA jd fun ro B a w p aK=>?_
 have gh:=aK.aN ab;have fl:=aK.aN ax;generalize eo:a.eval x=dN at gh;generalize fh:a.eval y=gb at fl;cases gh;cases fl;have cR:=LQ aR aM bw bO nO p5 n c tL an eA w;have uF:=Aw u5;have AQ:=LP uF (c*aH.size);rw [aa,aj3] at cR AQ
 obtain ⟨bh,ea,dr,dG,m4,tt⟩:=US (e:=e) (sz:=1) (cap:=c) (cur:=madeCells aH.zero.cells c) aK.wf (bH.replicate (qH (w:=w) (p:=p) bG) n) (fun v ar=>by
  obtain ⟨_,rfl⟩:=at8.1 ar
  rw [uF];rfl) (by rw [size_madeCells,aj3]) (by
  rw [AQ,ag2,aj3,List.take_replicate,tD (fun v ar=>by obtain ⟨_,rfl⟩:=at8.1 ar;exact u5),am7 tL]) (by rw [ag2];exact tL) uV
 rw [ag2] at dG m4 tt;refine ⟨.slice (some ⟨w.heap.size,0,none⟩) n c,_,_,bh,_,?_,dr,dG,m4,⟨w.heap.size,rfl,rfl,ea,I⟩,tt⟩;unfold execOp;rw [ai];simp only [eo,fh];exact gW cR
theorem ae.GV (aR:bR P Γ) (I:Ok s L) {t e:TypeId} {x y:Operand} {it aH:bQ} {nO p5:IntKind} {z:ah} (n c:Nat) (aq:guardOf ops env o=some true) (ay:o.dst=some d) (a1:z2 d N=true) (ai:o.op = .makeSlice t x y) (aM:Γ.get? t=some it) (bw:it.bL = .aG e) (bO:Γ.get? e=some aH) (aa:aH.size=1)
  (u5:aH.zero.oneCell'=true) (bG:hF aH.zero=some z) (ab:aN env x=some (.int nO (n:Int))) (ax:aN env y=some (.int p5 (c:Int))) (tL:n≤c) (an:c*aH.bytes≤140737488355328) (eA:c≤9223372036854775807)
  (h:∀ b,Ok s ((.own b,.row e 1 n)::L)→ae P N ops l Q ((d,.aG 1 (H1 n z) (.own b))::env) (aU s ((.own b,.row e 1 n)::L))):ae P N ops (o::l) Q env (aU s L):=by
 refine ae.op aq ay a1 (a6.GV aR I n c ai aM bw bO aa u5 bG ab ax tL an eA (X:=fun _ _=>False)) ?_ (fun _ _ h=>h.elim);rintro r ak ⟨b,rfl,rfl,ad⟩;exact h b ad
end
def LR (P:Program) {α:Type} (df a2:α→ah) (mL:α→Prop) (l:Nat) (Go:List α→bb→Prop) (fD:bb→Prop) (fK:ah→bb→Prop):Prop:=
 ∀ x rem K,Go (x::rem) K→ds P (lY l) [df x,a2 x] K (fun o aQ=>(o = .ret (.bool true)∧mL x∧Go rem aQ)∨(o = .ret (.bool false)∧fD aQ)∨∃ v,o = .panic v∧fK v aQ)
def GW (P:Program) (f:FuncId) (first cap:List ah) (nh:bb) {α:Type} (df a2:α→ah) (mL:α→Prop) (xs:List α):Prop:=
 ∀ (l:Nat) (Go:List α→bb→Prop) (fD:bb→Prop) (fK:ah→bb→Prop),LR P df a2 mL l Go fD fK→∀ K,Go xs K →
  bI P f (first++([lY l]++cap)) (nh++K) (fun o aQ=>(o = .ret (.cr [])∧(Go [] aQ∨fD aQ))∨∃ v,o = .panic v∧fK v aQ)
section
variable {P:Program} {N:Nat} {Q:b3→Env→ao→Prop} {env:Env} {s:ao} {L R:bb}
theorem af.LS {α:Type} {df a2:α→ah} {mL:α→Prop} {xs:List α} {t u:Tmp} {g:Operand} {hi body:Code} {f:FuncId} {first cap:List ah} {nh:bb} (I:Ok s L) (aq:aN env g=some (.func f first cap)) (a1:t<N) (fj:u<N)
  (ox:GW P f first cap nh df a2 mL xs) (au:aJ L nh R) (aeo:List α→bb→Prop) (J:Code→bb→Prop) (tH:ah→bb→Prop) (bo:aeo xs R)
  (tc:∀ s x rem K,aeo (x::rem) K→Ok s K→af P N hi (b3.andThen (af P N body (C4 (At s (fun K=>mL x∧aeo rem K)) (fun j=>At s (J j)) (fun v=>At s (tH v)))) (fun _ _ _=>False)) ((u,a2 x)::(t,df x)::env) (aU s K))
  (aB:∀ K,aeo [] K→Ok s K→Q .normal env (aU s K))
  (aI:∀ j K,J j K→Ok s K→af P N j Q env (aU s K))
  (ab:∀ v K,tH v K→Ok s K→Q (.panic v) env (aU s K)):af P N (.rangeFunc g #[t,u] hi body) Q env (aU s L):=by
 refine af.KQ aq (by intro bP c7;simp at c7;rcases c7 with rfl|rfl;exact a1;exact fj) fun l r aC Gw=>?_
 have Gx:Ok s ((.own l,.loop r env)::L):=⟨aC,I⟩;have pf:LR P df a2 mL l (fun rem K=>∃ aQ,K=(.own l,.loop r env)::aQ∧aeo rem aQ) (fun K=>∃ j aQ,K=(.own l,.loop (qW r j) env)::aQ∧J j aQ) (fun v K=>∃ aQ,K=(.own l,.loop (busy r) env)::aQ∧tH v aQ):=by
  rintro x rem _ ⟨K,rfl,aw⟩ ak Az;refine (Gw [df x,a2 x] _ (At ak (fun K=>mL x∧aeo rem K)) (fun j=>At ak (J j)) (fun v=>At ak (tH v)) (ao.gr _ _ _) C ?_).less ?_
  ·have:=ao.zQ (aU ak K) l (.loop r env) Az.1
   show af P N hi _ _ (((aU ak K).set l (.loop r env)).del l);rw [this];exact tc ak x rem K aw Az.2
  ·have key:∀ {L K R:bb} {o:dy},aU ak L l=none→Ok ak L→aJ L K R→ao.Sub (aU ak ((.own l,o)::K)) ((aU ak L).set l o)∧Ok ak ((.own l,o)::K):=by
    intro L K R o aa ad aj;exact (aJ.cons bp.here aj).sub (L:=(.own l,o)::L) ⟨aa,ad⟩
   rintro o eL (⟨rfl,dC,aa,rfl,L,aQ,R,rfl,ad,a8,aj⟩|⟨rfl,j,dC,aa,rfl,L,aQ,R,rfl,ad,a8,aj⟩|⟨v,dC,rfl,aa,rfl,L,aQ,R,rfl,ad,a8,aj⟩)
   ·obtain ⟨cu,c2⟩:=key aa ad a8 (o := .loop r env)
    exact ⟨_,cu,(.own l,.loop r env)::aQ,rfl,c2,.inl ⟨rfl,aj.1,aQ,rfl,aj.2⟩⟩
   ·obtain ⟨cu,c2⟩:=key aa ad a8 (o := .loop (qW r j) env)
    exact ⟨_,cu,(.own l,.loop (qW r j) env)::aQ,rfl,c2,.inr (.inl ⟨rfl,j,aQ,rfl,aj⟩)⟩
   ·obtain ⟨cu,c2⟩:=key aa ad a8 (o := .loop (busy r) env)
    exact ⟨_,cu,(.own l,.loop (busy r) env)::aQ,rfl,c2,.inr (.inr ⟨v,rfl,aQ,rfl,aj⟩)⟩
 have c0:=(ox l _ _ _ pf _ ⟨R,rfl,bo⟩).at Gx ((au.there (e:=(.own l,.loop r env))).app (aJ.eb _));refine c0.mono ?_;rintro o eL ⟨M,rfl,iQ,aQ,rfl,h⟩;rw [d9] at iQ ⊢;rcases h with ⟨rfl,⟨mG,rfl,h⟩|⟨j,mG,rfl,h⟩⟩|⟨v,rfl,mG,rfl,h⟩
 ·exact .inl ⟨aU s mG,iQ.1,rfl,aB mG h iQ.2⟩
 ·exact .inr ⟨j,aU s mG,iQ.1,rfl,aI j mG h iQ.2⟩
 ·exact ⟨aU s mG,_,iQ.1,rfl,ab v mG h iQ.2⟩
end
section
variable {J:ao→Prop} {P:Program} {Γ:cw} {N:Nat} {l:List Oper} {i:Nat} {rest:List Oper} {Q:b3→Env→ao→Prop} {env:Env} {s:ao} {o:Oper} {d:Nat}
theorem aL.shl {t yt:TypeId} {x y:Operand} {k k':IntKind} {a b:Int} (r:Int) (aq:c8 l env o) (ay:o.dst=some d) (a1:z2 d N=true) (ai:o.op = .binOp .shl t x y yt) (ab:aN (b2 l env o) x=some (.int k a)) (ax:aN (b2 l env o) y=some (.int k' b)) (an:0≤b) (aE:k.wrap (a*2^(min b.toNat k.bits))=r)
  (h:aL J P Γ N l (i+1) rest Q ((d,.int k r)::env) s):aL J P Γ N l i (o::rest) Q env s:=
 aL.calm aq ay a1 (fun _ _=>a6.shl ai ab ax an aE) h
theorem aL.shr {t yt:TypeId} {x y:Operand} {k k':IntKind} {a b:Int} (r:Int) (aq:c8 l env o) (ay:o.dst=some d) (a1:z2 d N=true) (ai:o.op = .binOp .shr t x y yt) (ab:aN (b2 l env o) x=some (.int k a)) (ax:aN (b2 l env o) y=some (.int k' b)) (an:0≤b) (aE:a.fdiv (2^(min b.toNat k.bits))=r)
  (h:aL J P Γ N l (i+1) rest Q ((d,.int k r)::env) s):aL J P Γ N l i (o::rest) Q env s:=
 aL.calm aq ay a1 (fun _ _=>a6.shr ai ab ax an aE) h
theorem aL.bits {op:BinOp} {t yt:TypeId} {x y:Operand} {k:IntKind} {a b:Int} (r:Int) (aq:c8 l env o) (ay:o.dst=some d) (a1:z2 d N=true) (ai:o.op = .binOp op t x y yt) (ab:aN (b2 l env o) x=some (.int k a)) (ax:aN (b2 l env o) y=some (.int k b)) (aE:bitsOf op k a b=some r)
  (h:aL J P Γ N l (i+1) rest Q ((d,.int k r)::env) s):aL J P Γ N l i (o::rest) Q env s:=
 aL.calm aq ay a1 (fun _ _=>a6.bits ai ab ax aE) h
end
section
variable {J:ao→Prop} {P:Program} {Γ:cw} {N:Nat} {l:List Oper} {Q:b3→Env→ao→Prop} {env:Env} {s:ao} {o:Oper} {d m:Nat} {L R:bb}
theorem bq.nd (i:Nat) (aR:bR P Γ) (I:Ok s L) {t dO e1:TypeId} {x y z:Operand} {it gK:bQ} {b:Nat} {es dv:List (ah×ah)} {k v:ah} (aE:eP l.toArray m (idxs 0 l)=[i]) (ai:l.toArray[i]? = some o) (ay:o.dst=none)
  (aq:c8 l env o) (b1:o.op = .mapUpdate t x y z∨o.op = .insert t x y z) (aM:Γ.get? t=some it) (bw:it.bL = .map dO e1) (h1:Γ.get? dO=some gK) (ab:aN (b2 l env o) x=some (.map b)) (ax:aN (b2 l env o) y=some k) (bG:aN (b2 l env o) z=some v)
  (au:bp L (.own b) (.map es) R) (aX:kf gK.bL k=true) (aF:lT es k v=some dv)
  (aI:Ok s ((.own b,.map dv)::R)→J (aU s ((.own b,.map dv)::R))∨k2 l.toArray i=true)
  (h:Ok s ((.own b,.map dv)::R)→bq J P Γ N l.toArray Q (bX (m|||2^i)) env (aU s ((.own b,.map dv)::R))):bq J P Γ N l.toArray Q (bX m) env (aU s L):=
 bq.yk aE ai ay aq (a6.nd aR I b1 aM bw h1 ab ax bG au aX aF (X:=fun _ _=>False)) (fun x ak ⟨aa,ad⟩=>by subst aa;exact aI ad) (fun x ak ⟨aa,ad⟩=>by subst aa;exact h ad) (fun _ _ h=>h.elim)
end
section
variable {P:Program} {b:Frame} {a:Act} {k:List Item} {cs:List Frame} {w:World}
theorem AR {c:Code}:step P (lone (b.atR a (.code (.scope c)::k)) cs w) = .next (lone (b.atR a (.code c :: .inScope c::k)) cs w):=
 step_lone_go (by simp [stepG,stepG.exec,Frame.atR])
theorem UT {c:Code}:step P (lone (b.atR a (.inScope c::k)) cs w) = .next (lone (b.atR a k) cs w):=
 step_lone_go (by simp [stepG,stepG.exec,Frame.atR])
theorem UU {Q:hg→Act→World→Prop} {c:Code} (h:jS P b c Q a w):jS P b (.scope c) Q a w:=by
 intro k cs;obtain ⟨e,iM,w₁,bn,ga⟩:=h (.inScope c::k) cs;cases e with
 | normal=>exact ⟨.normal,iM,w₁,bn,.head AR (Steps.trans ga (.one UT))⟩
 | exit id=>
  refine ⟨.exit id,iM,w₁,bn,fun k' aA => .head AR (ga.1 k' (by simpa [exitTo] using aA)),fun aA=>?_⟩;obtain ⟨k₁,aa,ad⟩:=ga.2 (by simpa [exitTo] using aA);exact ⟨k₁,aa,.head AR ad⟩
 | ret=>obtain ⟨k₁,au⟩:=ga;exact ⟨.ret,iM,w₁,bn,k₁,.head AR au⟩
 | panic dx=>obtain ⟨k₁,au⟩:=ga;exact ⟨.panic dx,iM,w₁,bn,k₁,.head AR au⟩
theorem UW {Q:hg→Act→World→Prop} {l:Nat} (h:Q .normal a w):jS P b (.label l) Q a w:=
 fun _ _=>⟨.normal,a,w,h,.one stepR_label⟩
end
section
variable {P:Program} {N:Nat} {Q:b3→Env→ao→Prop} {env:Env} {s:ao}
theorem af.scope {c:Code} (h:af P N c Q env s):af P N (.scope c) Q env s:=fun b B a w p eZ aK=>UU (h b B a w p eZ aK)
theorem af.label {l:Nat} (h:Q .normal env s):af P N (.label l) Q env s:=fun _ _ _ _ _ _ aK=>UW (.here .normal h aK)
end
def e7 (g:List bs):ah := .aG 4 (g.map eR) .bd
def mM:Option Int→List Int→Bool
 | _,[]=>true
 | none,x::r=>decide (x≥0)&&mM (some x) r
 | some p,x::r=>decide (x≥0)&&(decide (p<x)&&mM (some x) r)
theorem LU:∀ (r:List Int) (x:Int),lD (x::r)=(decide (x≥0)&&mM (some x) r)
  | [],x=>by rw [lD,mM,Bool.and_true]
  | y::r,x=>by
    rw [lD,mM,LU r y];cases decide (x<y)<;>cases decide (y≥0)<;>simp
theorem LV (l:List Int):lD l=mM none l:=by
 cases l with
 | nil=>rfl
 | cons x r=>rw [LU,mM]
theorem kk {len i:Nat} {x:bs} (h:x.atom ≠ -1):iH len i x=true↔0≤x.atom∧x.atom<7∧x.no>i∧x.no<len∧x.yes>i∧x.yes<len∧x.ms.length=0:=by
 unfold iH;rw [d7 h];simp
theorem mN {len i:Nat} {x:bs} (h:x.atom = -1):iH len i x=true↔x.no=0∧x.yes=0∧x.ms.length≤16∧lD x.ms=true:=by
 unfold iH;rw [f7 h];simp
theorem DA (g:List bs) (aq:g.length<bx):aV d0 68 [e7 g] (.bool (fF g)):=by
 have an:=bE;refine aV.bl al Tryz.func68 C C fun s I=>?_
 unfold e7;have dj:fF g=fF g:=rfl
 conv at dj=>rhs;unfold fF
 refine dS ?_;by_cases g1:g.length=0
 ·refine ae.dK 10 C (by simp [g1]) ?_
  rw [show decide (1≤g.length)=false by simp [g1],f6] at dj;rw [dj];refine et ?_;exact br I
 refine ae.dh 10 C (by simp;intro e;exact g1 (by rw [e];rfl)) ?_;rw [show decide (1≤g.length)=true by simp;omega,f5] at dj;refine gj ?_;refine af.cond C (fun g2=>?_) (fun g2=>?_)
 ·rw [show decide (g.length≤300)=false by simp at g2 ⊢;omega,f6] at dj
  rw [dj];refine gE ?_;exact br I
 have g2:g.length≤300:=by simp at g2;omega
 rw [g8 g2,f5] at dj;rw [dj];refine jL ?_;refine af.ck [0,15,16] C I (σ:=Nat) (fun j=>[(17,.int .i64 (j:Int))]) (fun _=>[]) (fun j=>j≤g.length∧ni g.length 0 g=ni g.length j (g.drop j)) (fun j=>g.length-j) 0 ⟨g9 _,rfl⟩ (cK C) ba ?_;rintro j ⟨aI,aw⟩ I
 try simp only at aI aw I ⊢
 refine cf ?_;refine af.cond C (fun az=>?_) (fun a7=>?_);rotate_left
 ·have a7:j=g.length:=by simp at a7;omega
  rw [eE ag,ni] at aw;rw [aw];refine ew ?_;exact br I
 have az:j<g.length:=by simpa using az
 obtain ⟨x,ab,ch⟩:=b7 (f:=eR) az;rw [drop_cons ab,ni] at aw;unfold eR gO bj at ch
 repeat (first|(refine An I ?_;clear I;intro I)|refine ae.dZ al I rfl rfl rfl rfl rfl rfl rfl (fun cB I=>?_))
 refine af.cond C (fun aO=>?_) (fun aO=>?_)
 ·have aO:x.atom ≠ -1:=by simpa using aO
  refine ct I ?_;intro I;by_cases aa:x.atom<0
  ·refine ae.dK 28 C (g8 aa) ?_
   refine fe ?_;rw [aw,show iH g.length j x=false from af3.2 (fun h=>by have:=(kk aO).1 h;omega),f6];skip;exact br I
  refine ae.dh 28 C (i8 aa) ?_;refine ct I ?_;intro I;by_cases ad:x.atom≥7
  ·refine ae.dK 33 C (g8 ad) ?_
   refine fe ?_;rw [aw,show iH g.length j x=false from af3.2 (fun h=>by have:=(kk aO).1 h;omega),f6];skip;exact br I
  refine ae.dh 33 C (i8 ad) ?_;refine ct I ?_;intro I;by_cases aj:(if x.yes<x.no then x.yes else x.no)≤(j:Int)
  ·refine ae.dK 42 C (g8 aj) ?_
   refine fe ?_;rw [aw,show iH g.length j x=false from af3.2 (fun h=>by have:=(kk aO).1 h;omega),f6];skip;exact br I
  refine ae.dh 42 C (i8 aj) ?_;refine ct I ?_;intro I;by_cases a8:(if x.yes>x.no then x.yes else x.no)≥(g.length:Int)
  ·refine ae.dK 52 C cL ?_
   refine fe ?_;rw [aw,show iH g.length j x=false from af3.2 (fun h=>by have:=(kk aO).1 h;omega),f6];skip;exact br I
  refine ae.dh 52 C cL ?_;refine ct I ?_;intro I;refine af.cond C (fun bB=>?_) (fun bB=>?_)
  ·have bB:x.ms.length≠0:=by simp at bB;omega
   rw [aw,show iH g.length j x=false from af3.2 (fun h=>by have:=(kk aO).1 h;omega),f6];refine jK ?_;exact br I
  have bB:x.ms.length=0:=by simp at bB;rw [bB];rfl
  rw [(kk aO).2 ag,f5] at aw;refine bK ?_;exact bD.mk (j+1) I ⟨az,aw⟩ cA ba uU
 have aO:x.atom = -1:=by simpa using aO
 refine ct I ?_;intro I;by_cases aa:x.no=0;rotate_left
 ·refine ae.dK 61 C tC ?_
  refine fe ?_;rw [aw,show iH g.length j x=false from af3.2 (fun h=>by have:=(mN aO).1 h;omega),f6];skip;exact br I
 refine ae.dh 61 C tC ?_;refine ct I ?_;intro I;by_cases ad:x.yes=0;rotate_left
 ·refine ae.dK 66 C pJ ?_
  refine fe ?_;rw [aw,show iH g.length j x=false from af3.2 (fun h=>by have:=(mN aO).1 h;omega),f6];skip;exact br I
 refine ae.dh 66 C pJ ?_;refine ct I ?_;intro I;refine af.cond C (fun aj=>?_) (fun aj=>?_)
 ·rw [aw,show iH g.length j x=false from af3.2 (fun h=>by have:=(mN aO).1 h;simp at aj;omega),f6]
  refine jK ?_;exact br I
 have aj:x.ms.length≤16:=by simp at aj;omega
 refine ct I ?_;intro I;refine af.ck [0,15,16,17,4,73,74] C I (σ:=Nat) (fun k=>[(75,.int .i64 (k:Int))]) (fun _=>[(.own cB,.box 69 (gO x))]) (fun k=>k≤x.ms.length∧lD x.ms=mM (if k=0 then none else x.ms[k-1]?) (x.ms.drop k)) (fun k=>x.ms.length-k) 0 ⟨g9 _,LV _⟩ (cK C) (by simp only [gO];exact ba) ?_;rintro k ⟨aA,bk⟩ I
 try simp only [gO,bj] at aA bk I ⊢
 refine cf ?_;refine af.cond C (fun cT=>?_) (fun ef=>?_);rotate_left
 ·have ef:k=x.ms.length:=by simp at ef;omega
  rw [eE ag,mM] at bk;rw [(mN aO).2 ⟨aa,ad,aj,bk⟩,f5] at aw;refine bK ?_;exact bD.mk (j+1) I ⟨az,aw⟩ cA ba uU
 have cT:k<x.ms.length:=by simpa using cT
 obtain ⟨y,ax,dc⟩:=b7 (f:=bg) cT;rw [drop_cons ax] at bk;unfold bg at dc;refine eh ?_;by_cases a8:y<0
 ·refine ae.dK 82 C (g8 a8) ?_
  have bk:lD x.ms=false:=by
   rw [bk];cases (if k=0 then none else x.ms[k-1]?)<;>rw [mM,show decide (y≥0)=false by simp;omega,f6]
  rw [aw,show iH g.length j x=false from af3.2 (fun h=>by have:=((mN aO).1 h).2.2.2;rw [bk] at this;cases this),f6];refine fe ?_;exact br I
 refine ae.dh 82 C (i8 a8) ?_;have nH:decide (y≥0)=true:=by simp;omega
 cases k with
 | zero=>
  rw [f7 C,mM,nH,f5] at bk;refine bK ?_;exact bD.mk 1 I ⟨cT,by rw [d7 ag];simpa [ax] using bk⟩ Dj ba (by show x.ms.length-1<x.ms.length-0;omega)
 | succ k=>
 rw [d7 ag,Nat.add_sub_cancel] at bk;obtain ⟨z,bG,q9⟩:=b7 (f:=bg) (show k<x.ms.length by omega);rw [bG,mM,nH,f5] at bk;unfold bg at q9;refine er ?_;refine ae.dK 85 C bc ?_;refine ct I ?_;intro I;refine ae.idx al k C C C C C C C C C C (by rw [ev ag ag];push_cast;omega) q9 C ?_;refine gj ?_;refine af.cond C (fun bB=>?_) (fun bB=>?_)
 ·rw [show decide (z<y)=false by simp at bB ⊢;omega,f6] at bk
  rw [aw,show iH g.length j x=false from af3.2 (fun h=>by have:=((mN aO).1 h).2.2.2;rw [bk] at this;cases this),f6];refine jK ?_;exact br I
 rw [show decide (z<y)=true by simp at bB ⊢;omega,f5] at bk;refine fV ?_;exact bD.mk (k+2) I ⟨cT,by rw [d7 ag];simpa [ax] using bk⟩ Aq ba (by show x.ms.length-(k+2)<x.ms.length-(k+1);omega)
section
variable {P:Program} {Γ:cw} {N:Nat} {ops:Array Oper} {Q:b3→Env→ao→Prop} {env:Env} {s:ao} {l:List Oper} {o:Oper} {d:Nat} {L R:bb}
theorem LW (aR:bR P Γ) {w:World} {p:bU} {S:ao} (ca:dq w p S) {t bP e ty:TypeId} {it cJ aH:bQ} {bZ:Nat} {olds:List Value} {xs ys:List ah} {dD:bV} {base:Option Addr} {n cap:Nat} {q1:Value}
  (aM:Γ.get? t=some it) (bw:it.bL = .aG e) (c7:Γ.get? bP=some cJ) (dH:∀ k,cJ.bL ≠ .int k) (bO:Γ.get? e=some aH) (aa:aH.size=1) (ed:af2 aH.zero.cells.size aH.size=true)
  (aE:bH w p olds xs) (aB:n=xs.length) (tm:(Builtin.firstCells 1 n (.slice base n cap)).run P w.drew = .ok olds.toArray w.drew) (ax:Rel w p q1 (.aG bZ ys dD)) (dg:bZ=1) (dY:ys.all fb=true)
  (az:cap<n+ys.length) (an:(n+ys.length)*aH.bytes≤140737488355328) (eA:n+ys.length≤9223372036854775807) :
  ∃ aY cb cs' w',(Builtin.append_ #[t,bP] ty #[.slice base n cap,q1]).run P w = .ok (.slice (some ⟨aY,0,none⟩) (n+ys.length) cb) w'∧S aY=none∧de w p w' p∧Kept S (S.set aY (.box e cs')) w p w' p∧dq w' p (S.set aY (.box e cs')) ∧
   cs'.length=cb∧n+ys.length≤cb∧cs'.take (n+ys.length)=xs++ys:=by
 obtain ⟨info,d,g1,g2,g3,-⟩:=aR.parts aM;obtain ⟨m0,c4,ea,dr,dG,-⟩:=aR.parts c7;obtain ⟨jT,kB,cu,c2,fg,eG,jU,jq⟩:=aR.parts bO;have ay:d = .slice e:=by rw [bw] at g3;cases d<;>simp [en] at g3;rw [g3]
 subst ay;have cg:∀ k,c4 ≠ .int k:=fun k e'=>by subst e';exact dH k dG.symm
 obtain ⟨us,im,pR,jV,kg,tp,tq,tr⟩:=qK ax (.inr dg);have m6:=im.length;subst dg;have tE:flat us=us:=tD (qJ im dY);have fB:=growslice_fits (need:=n+ys.length) (old:=cap) (bytes:=aH.bytes) az an;have cR:=zV (ty:=ty) w g2 dr cg cu jq (base:=base) (sLen:=n) (sCap:=cap) (m:=ys.length) (olds:=olds) (news:=us) (jV P)
  (by rw [eG,aa];exact tm) (by rw [eG,aa];(conv=>rhs;rw [← tE]);exact kg P w.drew (fun _ _ _=>rfl)) az ag (by rw [jU];exact fB)
 have nM:n+ys.length≤grownCap w (n+ys.length) cap e:=by simp [grownCap,Question.cut]
 have gd:olds.length=n:=by rw [aE.length,aB]
 have oZ:=ad' ed;generalize tn:(Builtin.zeroCells aH.zero.cells (grownCap w (n+ys.length) cap e-(n+ys.length))).toList=a' at cR;have mx:a'.length=grownCap w (n+ys.length) cap e-(n+ys.length):=by
  rw [← tn,ae5];simp [Builtin.zeroCells,oZ,aa]
 generalize grownCap w (n+ys.length) cap e=G at cR nM mx;have wQ:=x7 ca
 obtain ⟨au,hle,aA,k3⟩:=rY wQ (.cells (olds++us++a').toArray e (0,0)) (.box e (xs++ys++a'.map fun _ => .any)) (fun w' iO ar fz=>⟨_,iO,by
  refine bH.append (bH.append (fz _ _ (show bH w.drew p olds xs from aE.mono kX)) (fz _ _ (im.mono kX))) (bH.Av a'),fun o aF=>absurd (ca.lt _ _ aF) (by show ¬ w.heap.size<w.heap.size;omega)⟩)
 rw [show w.drew.heap.size=w.heap.size from rfl] at au aA k3;refine ⟨w.heap.size,G,xs++ys++a'.map (fun _=>ah.any),_,cR,au,kX.trans hle,(vW (w:=w) (p:=p)).trans (kX (w:=w) (p:=p)).size aA,k3,?_,nM,?_⟩
 ·simp only [f9,f8,mx];omega
 ·rw [ah3 cL,ah1 cL]
theorem a6.GX (aR:bR P Γ) (I:Ok s L) {t bP e:TypeId} {x y:Operand} {it cJ aH:bQ} {eg bZ:Nat} {ys:List ah} {dD:bV}
  (ai:o.op = .call { callee := .builtin .append,args := #[x,y],argTypes := #[t,bP] }) (aM:Γ.get? t=some it) (bw:it.bL = .aG e) (c7:Γ.get? bP=some cJ) (dH:∀ k,cJ.bL ≠ .int k)
  (bO:Γ.get? e=some aH) (aa:aH.size=1) (ed:af2 aH.zero.cells.size aH.size=true) (ab:aN env x=some (.aG eg [] .nil)) (ax:aN env y=some (.aG bZ ys dD)) (dg:bZ=1) (dY:ys.all fb=true) (cP:1≤ys.length) (an:ys.length*aH.bytes≤140737488355328) (eA:ys.length≤9223372036854775807)
  {X:ah→ao→Prop}:a6 P N o env (aU s L) (fun r ak=>Grown s L e ys.length ys r ak) X:=by
 refine a6.kA jd fun ro B a w p aK=>?_
 have gh:=aK.aN ab;have fl:=aK.aN ax;have eO:=fun val w'=>uW (P:=P) (a:=a) (val:=val) (w:=w) (w':=w') ai
 generalize eo:a.eval x=dN at gh eO;generalize fh:a.eval y=gb at fl eO;have tF:dN = .slice none 0 0:=by
  cases gh with
  | hY=>rfl
  | iA a _ _ h=>rcases h with h|h<;>cases h
  | aG g off n cap _ vs _ _ aB=>exact absurd C aB
 subst tF
 obtain ⟨aY,cb,cs',w',fr,gD,hB,ja,my,mz,nf,ng⟩:=LW (ty:=o.type) aR aK.wf (base:=none) (n:=0) (cap:=0) (olds:=[]) (xs:=[]) aM bw c7 dH bO aa ed .nil rfl (by
  have:=run_firstCells_none (P:=P) w.drew 1 0 0 0
  simpa using this) fl dg dY ag uu ag
 rw [af6] at fr nf ng;exact ⟨_,w',_,p,_,eO _ _ fr,hB,ja,my,⟨aY,cb,cs',rfl,rfl,⟨gD,I⟩,mz,nf,by simpa using ng⟩,.hE _⟩
theorem a6.GY (aR:bR P Γ) (I:Ok s L) {t bP e:TypeId} {x y:Operand} {it cJ aH:bQ} {b n cap bZ:Nat} {cs ys:List ah} {dD:bV}
    (ai:o.op = .call { callee := .builtin .append,args := #[x,y],argTypes := #[t,bP] }) (aM:Γ.get? t=some it) (bw:it.bL = .aG e) (c7:Γ.get? bP=some cJ) (dH:∀ k,cJ.bL ≠ .int k)
    (bO:Γ.get? e=some aH) (aa:aH.size=1) (ed:af2 aH.zero.cells.size aH.size=true) (ab:aN env x=some (ee b n cap)) (au:bp L (.own b) (.box e cs) R) (b9:cs.length=cap) (aB:n≤cap) (iD:(cs.take n).all fb=true)
    (ax:aN env y=some (.aG bZ ys dD)) (dg:bZ=1) (dY:ys.all fb=true) (an:(n+ys.length)*aH.bytes≤140737488355328) (eA:n+ys.length≤9223372036854775807)
    {X:ah→ao→Prop}:a6 P N o env (aU s L) (fun r ak=>Grown s R e (n+ys.length) (cs.take n++ys) r ak) X:=by
  obtain ⟨b6,bW,eN⟩:=au.perm I;refine a6.kA jd fun ro B a w p aK=>?_
  have gh:=aK.aN ab;have fl:=aK.aN ax;have eO:=fun val w'=>uW (P:=P) (a:=a) (val:=val) (w:=w) (w':=w') ai
  generalize eo:a.eval x=dN at gh eO;generalize fh:a.eval y=gb at fl eO;cases gh;obtain ⟨vs,cW,c6,eW⟩:=aK.wf.obj _ _ (au.get I);have fz:vs.toList.length=cap:=by rw [c6.length,b9]
  have hL:=c6.take n;have wR:=qJ hL iD;have pT:∀ w':World,(∀ j,w'.cell? ⟨b,j,none⟩=w.cell? ⟨b,j,none⟩)→(Builtin.firstCells 1 n (.slice (some ⟨b,0,none⟩) n cap)).run P w' = .ok (vs.toList.take n).toArray w':=by
    intro w' iO;refine run_firstCells_some (P:=P) w' 1 n ⟨b,0,none⟩ n cap (vs.toList.take n) (by rw [ae9,fz];omega) (fun j u hu=>?_);rw [lr,af6,iO,jH cW];rw [ai2] at hu;split at hu
    · simpa using hu
    · cases hu
  by_cases az:cap<n+ys.length
  · obtain ⟨aY,cb,cs',w',fr,gD,hB,ja,my,mz,nf,ng⟩:=LW (ty:=o.type) aR aK.wf (base:=some ⟨b,0,none⟩) (n:=n) (cap:=cap) (olds:=vs.toList.take n) (xs:=cs.take n) aM bw c7 dH bO aa ed hL x0
      (pT w.drew fun _=>rfl) fl dg dY az an eA
    have fR:ao.Sub ((aU s R).set aY (.box e cs')) ((aU s L).set aY (.box e cs')):=by
      refine Df (k := .own aY) ?_;rw [b6];exact yo (k := .own b) (ao.o1 _) bW
    have aq:aU s R aY=none:=by
      have h:=gD;rw [b6] at h;exact (ao.uG h).2
    exact ⟨_,w',_,p,_,eO _ _ fr,hB,ja.sub fR,my.sub fR,⟨aY,cb,cs',rfl,rfl,⟨aq,eN⟩,mz,nf,ng⟩,.hE _⟩
  · obtain ⟨info,d,g1,g2,g3,-⟩:=aR.parts aM
    obtain ⟨m0,c4,ea,dr,dG,-⟩:=aR.parts c7;obtain ⟨jT,kB,cu,c2,fg,eG,jU,jq⟩:=aR.parts bO;have ay:d = .slice e:=by rw [bw] at g3;cases d<;>simp [en] at g3;rw [g3]
    subst ay;have cg:∀ k,c4 ≠ .int k:=fun k e'=>by subst e';exact dH k dG.symm
    subst dg;obtain ⟨us,im,pR,jV,kg,tp,tq,tr⟩:=qK (sz':=1) fl (.inr rfl);have m6:=im.length;have j0:∀ x∈us,x.oneCell'=true:=qJ im dY;have tE:flat us=us:=tD j0;have eM:vs.size=cap:=by rw [← ae5];exact fz
    have cR:=CO (ty:=o.type) (P:=P) w g2 dr cg cu b n cap vs cW (xv:=gb) (m:=ys.length) (news:=us) (jV P) (by rw [eG,aa];(conv=>rhs;rw [← tE]);exact kg P w (fun _ _ _=>rfl)) j0 ag (by rw [eG,aa,eM];omega);rw [eG,aa,aj3] at cR;have hk:bH w p (vs.toList.take n++us++vs.toList.drop (n+us.length)) (cs.take n++ys++cs.drop (n+us.length)):=bH.append (bH.append hL im) (c6.drop _);have b8:(aU s L) b=some (.box e cs):=au.get I
    obtain ⟨da,j1,ic⟩:=we aK.wf b8 (vs':=(vs.toList.take n++us++vs.toList.drop (n+us.length)).toArray) (cs':=cs.take n++ys++cs.drop (n+us.length)) (fun Ax bo=>by
      rw [cW] at bo;cases bo
      simp only [an4,f9,ae9,ai8,fz]
      rw [eM];omega) (by simpa using hk) _ C
    obtain ⟨f1,f2⟩:=au.put (.box e (cs.take n++ys++cs.drop (n+us.length))) I;refine ⟨_,_,_,p,_,eO _ _ cR,da,j1,ic,⟨b,cap,cs.take n++ys++cs.drop (n+us.length),rfl,f1,f2,?_,by omega,?_⟩,.hE _⟩
    · simp only [f9,ae9,ai8,b9];omega
    · have:(cs.take n++ys).length=n+ys.length:=by simp [b9];omega
      rw [ah3 ag,ah1 ag]
theorem a6.GZ (aR:bR P Γ) {t bP e:TypeId} {x y:Operand} {it cJ aH:bQ} {eg bZ:Nat} {dD:bV}
  (ai:o.op = .call { callee := .builtin .append,args := #[x,y],argTypes := #[t,bP] }) (aM:Γ.get? t=some it) (bw:it.bL = .aG e) (c7:Γ.get? bP=some cJ) (dH:∀ k,cJ.bL ≠ .int k)
  (bO:Γ.get? e=some aH) (ab:aN env x=some (.aG eg [] .nil)) (ax:aN env y=some (.aG bZ [] dD)) {X:ah→ao→Prop}:a6 P N o env s (fun r ak=>r = .aG 0 [] .nil∧ak=s) X:=by
 refine a6.kA jd fun ro B a w p aK=>?_
 have gh:=aK.aN ab;have fl:=aK.aN ax;have eO:=fun val w'=>uW (P:=P) (a:=a) (val:=val) (w:=w) (w':=w') ai
 generalize eo:a.eval x=dN at gh eO;generalize fh:a.eval y=gb at fl eO;have tF:dN = .slice none 0 0:=by
  cases gh with
  | hY=>rfl
  | iA a _ _ h=>rcases h with h|h<;>cases h
  | aG g off n cap _ vs _ _ aB=>exact absurd C aB
 subst tF;obtain ⟨info,d,g1,g2,g3,-⟩:=aR.parts aM;obtain ⟨m0,c4,ea,dr,dG,-⟩:=aR.parts c7;obtain ⟨jT,kB,cu,c2,fg,eG,jU,jq⟩:=aR.parts bO;have ay:d = .slice e:=by rw [bw] at g3;cases d<;>simp [en] at g3;rw [g3]
 subst ay;have cg:∀ k,c4 ≠ .int k:=fun k e'=>by subst e';exact dH k dG.symm
 obtain ⟨us,im,pR,jV,kg,tp,tq,tr⟩:=qK (sz':=aH.size) fl (.inl rfl);cases im;have aC:=jV P;have aX:=kg P w (fun _ _ _=>rfl);rw [List.length_nil] at aC aX;have bG:(match c4 with | .int _=>true|_=>false)=false:=by cases c4<;>first|rfl|exact absurd C (cg _)
 have cR:(Builtin.append_ #[t,bP] o.type #[.slice none 0 0,gb]).run P w = .ok (.slice none 0 0) w:=by
  simp [Builtin.append_,run_underlying g2,run_underlying dr,sizeOf,typeInfo,cu,eG,bG,aC,aX]
 exact ⟨_,w,s,p,_,eO _ _ cR,.refl w p,.refl s w p,aK.wf,⟨rfl,rfl⟩,.hY _ _ (fun _=>by simp)⟩
theorem ae.GZ (aR:bR P Γ) {t bP e:TypeId} {x y:Operand} {it cJ aH:bQ} {eg bZ:Nat} {dD:bV} (aq:guardOf ops env o=some true) (ay:o.dst=some d) (a1:z2 d N=true)
  (ai:o.op = .call { callee := .builtin .append,args := #[x,y],argTypes := #[t,bP] }) (aM:Γ.get? t=some it) (bw:it.bL = .aG e) (c7:Γ.get? bP=some cJ) (dH:∀ k,cJ.bL ≠ .int k)
  (bO:Γ.get? e=some aH) (ab:aN env x=some (.aG eg [] .nil)) (ax:aN env y=some (.aG bZ [] dD)) (h:ae P N ops l Q ((d,.aG 0 [] .nil)::env) s):ae P N ops (o::l) Q env s:=
 ae.op aq ay a1 (a6.GZ aR ai aM bw c7 dH bO ab ax (X:=fun _ _=>False)) (fun x ak ⟨aa,ad⟩=>by subst aa;subst ad;exact h) (fun _ _ h=>h.elim)
theorem ae.GX (aR:bR P Γ) (I:Ok s L) {t bP e:TypeId} {x y:Operand} {it cJ aH:bQ} {eg bZ:Nat} {ys:List ah} {dD:bV} (aq:guardOf ops env o=some true) (ay:o.dst=some d) (a1:z2 d N=true)
  (ai:o.op = .call { callee := .builtin .append,args := #[x,y],argTypes := #[t,bP] }) (aM:Γ.get? t=some it) (bw:it.bL = .aG e) (c7:Γ.get? bP=some cJ) (dH:∀ k,cJ.bL ≠ .int k)
  (bO:Γ.get? e=some aH) (aa:aH.size=1) (ed:af2 aH.zero.cells.size aH.size=true) (ab:aN env x=some (.aG eg [] .nil)) (ax:aN env y=some (.aG bZ ys dD)) (dg:bZ=1) (dY:ys.all fb=true) (cP:1≤ys.length) (an:ys.length*aH.bytes≤140737488355328) (eA:ys.length≤9223372036854775807)
  (h:∀ aY cb cs',cs'.length=cb→ys.length≤cb→cs'.take ys.length=ys→Ok s ((.own aY,.box e cs')::L)→ae P N ops l Q ((d,ee aY ys.length cb)::env) (aU s ((.own aY,.box e cs')::L))):ae P N ops (o::l) Q env (aU s L):=by
 refine ae.op aq ay a1 (a6.GX aR I ai aM bw c7 dH bO aa ed ab ax dg dY cP an eA (X:=fun _ _=>False)) ?_ (fun _ _ h=>h.elim);rintro r ak ⟨aY,cb,cs',rfl,rfl,ad,aj,a8,bB⟩;exact h aY cb cs' aj a8 bB ad
theorem ae.GY (aR:bR P Γ) (I:Ok s L) {t bP e:TypeId} {x y:Operand} {it cJ aH:bQ} {b n cap bZ:Nat} {cs ys:List ah} {dD:bV} (aq:guardOf ops env o=some true) (ay:o.dst=some d) (a1:z2 d N=true)
  (ai:o.op = .call { callee := .builtin .append,args := #[x,y],argTypes := #[t,bP] }) (aM:Γ.get? t=some it) (bw:it.bL = .aG e) (c7:Γ.get? bP=some cJ) (dH:∀ k,cJ.bL ≠ .int k)
  (bO:Γ.get? e=some aH) (aa:aH.size=1) (ed:af2 aH.zero.cells.size aH.size=true) (ab:aN env x=some (ee b n cap)) (au:bp L (.own b) (.box e cs) R) (b9:cs.length=cap) (aB:n≤cap) (iD:(cs.take n).all fb=true)
  (ax:aN env y=some (.aG bZ ys dD)) (dg:bZ=1) (dY:ys.all fb=true) (an:(n+ys.length)*aH.bytes≤140737488355328) (eA:n+ys.length≤9223372036854775807)
  (h:∀ aY cb cs',cs'.length=cb→n+ys.length≤cb→cs'.take (n+ys.length)=cs.take n++ys→Ok s ((.own aY,.box e cs')::R)→ae P N ops l Q ((d,ee aY (n+ys.length) cb)::env) (aU s ((.own aY,.box e cs')::R))):ae P N ops (o::l) Q env (aU s L):=by
 refine ae.op aq ay a1 (a6.GY aR I ai aM bw c7 dH bO aa ed ab au b9 aB iD ax dg dY an eA (X:=fun _ _=>False)) ?_ (fun _ _ h=>h.elim);rintro r ak ⟨aY,cb,cs',rfl,rfl,ad,aj,a8,bB⟩;exact h aY cb cs' aj a8 bB ad
end
section
variable {P:Program} {Γ:cw} {N:Nat} {ops:Array Oper} {Q:b3→Env→ao→Prop} {env:Env} {s:ao} {l:List Oper} {o:Oper} {d:Nat} {L R:bb}
def sj (b off n cap:Nat):ah := .hE (.slice (some ⟨b,off,none⟩) n cap)
theorem LX {t bP:TypeId} {x y:Operand} {a:Act} {val:Value} {w w':World} (ai:o.op = .call { callee := .builtin .copy,args := #[x,y],argTypes := #[t,bP] }) (h:(Builtin.copy_ #[t,bP] o.type #[a.eval x,a.eval y]).run P w = .ok val w') :
  (execOp a.eval o).run P w = .ok (.value val) w':=by
 unfold execOp;rw [ai];simp only [resolve,invoke,builtin,aa',ae3,i7,ar4,ae0,ag7,h]
theorem LY (I:Ok s L) {w:World} {p:bU} {b off:Nat} {e:TypeId} {cs ys:List ah} {us:List Value} {vs:Array Value} (ca:dq w p (aU s L)) (au:bp L (.own b) (.box e cs) R) (cW:w.heap[b]? = some (.cells vs e (0,0))) (c6:bH w p vs.toList cs) (hu:bH w p us ys) (fB:off+ys.length≤cs.length) :
  de w p (w.setRow b (vs.toList.take off++us++vs.toList.drop (off+us.length)).toArray) p∧Kept (aU s L) (aU s ((.own b,.box e (cs.take off++ys++cs.drop (off+ys.length)))::R)) w p (w.setRow b (vs.toList.take off++us++vs.toList.drop (off+us.length)).toArray) p ∧
   dq (w.setRow b (vs.toList.take off++us++vs.toList.drop (off+us.length)).toArray) p (aU s ((.own b,.box e (cs.take off++ys++cs.drop (off+ys.length)))::R))∧Ok s ((.own b,.box e (cs.take off++ys++cs.drop (off+ys.length)))::R):=by
 have m6:=hu.length;have qL:=c6.length;have hk:bH w p (vs.toList.take off++us++vs.toList.drop (off+us.length)) (cs.take off++ys++cs.drop (off+ys.length)):=by
  rw [m6];exact bH.append (bH.append (c6.take _) hu) (c6.drop _)
 obtain ⟨da,j1,ic⟩:=we ca (au.get I) (vs':=(vs.toList.take off++us++vs.toList.drop (off+us.length)).toArray) (cs':=cs.take off++ys++cs.drop (off+ys.length)) (fun Ax bo=>by
  rw [cW] at bo;cases bo
  rw [ae5] at qL
  simp only [an4,f9,ae9,ai8,ae5]
  omega) (by simpa using hk) _ C
 obtain ⟨f1,f2⟩:=au.put (.box e (cs.take off++ys++cs.drop (off+ys.length))) I;rw [f1] at j1 ic;exact ⟨da,j1,ic,f2⟩
theorem a6.G0 (aR:bR P Γ) (I:Ok s L) {t bP e:TypeId} {x y:Operand} {it aH:bQ} {b off dl q' bZ:Nat} {cs ys:List ah} {dD:bV}
  (ai:o.op = .call { callee := .builtin .copy,args := #[x,y],argTypes := #[t,bP] }) (aM:Γ.get? t=some it) (bw:it.bL = .aG e) (bO:Γ.get? e=some aH) (aa:aH.size=1) (ab:aN env x=some (sj b off dl q')) (au:bp L (.own b) (.box e cs) R)
  (ax:aN env y=some (.aG bZ ys dD)) (dg:bZ=1) (dY:ys.all fb=true) (ay:ys.length≤dl) (fB:off+ys.length≤cs.length) {X:ah→ao→Prop} :
  a6 P N o env (aU s L) (fun r ak=>r = .int .i64 ys.length∧ak=aU s ((.own b,.box e (cs.take off++ys++cs.drop (off+ys.length)))::R)∧Ok s ((.own b,.box e (cs.take off++ys++cs.drop (off+ys.length)))::R)) X:=by
 refine a6.kA jd fun ro B a w p aK=>?_
 have gh:=aK.aN ab;have fl:=aK.aN ax;have eO:=fun val w'=>LX (P:=P) (a:=a) (val:=val) (w:=w) (w':=w') ai
 generalize eo:a.eval x=dN at gh eO;generalize fh:a.eval y=gb at fl eO;cases gh;obtain ⟨info,d,g1,g2,g3,-⟩:=aR.parts aM;obtain ⟨jT,kB,cu,c2,fg,eG,jU,jq⟩:=aR.parts bO;have cg:d = .slice e:=by rw [bw] at g3;cases d<;>simp [en] at g3;rw [g3]
 subst cg;subst dg;obtain ⟨us,im,pR,jV,kg,tp,tq,tr⟩:=qK (sz':=1) fl (.inr rfl);have m6:=im.length;have j0:∀ x∈us,x.oneCell'=true:=qJ im dY;have tE:flat us=us:=tD j0;obtain ⟨vs,cW,c6,eW⟩:=aK.wf.obj _ _ (au.get I);have qL:=c6.length;rw [ae5] at qL;have aC:=jV P;have aX:=kg P w (fun _ _ _=>rfl);rw [tE] at aX;have wH:=run_storeCells_at P b off e us 0 vs w cW ag j0;simp only [Nat.add_zero] at wH;have UX:Nat.min ys.length dl=ys.length:=am7 ay;have cR:(Builtin.copy_ #[t,bP] o.type #[.slice (some ⟨b,off,none⟩) dl q',gb]).run P w = .ok (.int .i64 ys.length) (w.setRow b (vs.toList.take off++us++vs.toList.drop (off+us.length)).toArray):=by
  simp [Builtin.copy_,run_underlying g2,sizeOf,typeInfo,cu,eG,aa,aC,UX,aX,wH,goInt]
 obtain ⟨ea,dr,dG,m4⟩:=LY I aK.wf au cW c6 im fB;exact ⟨_,_,_,p,_,eO _ _ cR,ea,dr,dG,⟨rfl,rfl,m4⟩,.int _ _⟩
theorem a6.AS (aR:bR P Γ) (I:Ok s L) {t bP e:TypeId} {x y:Operand} {it aH:bQ} {b off dl q' jA bt yE k:Nat} {cs:List ah}
    (ai:o.op = .call { callee := .builtin .copy,args := #[x,y],argTypes := #[t,bP] }) (aM:Γ.get? t=some it) (bw:it.bL = .aG e) (bO:Γ.get? e=some aH) (aa:aH.size=1) (ab:aN env x=some (sj b off dl q')) (au:bp L (.own b) (.box e cs) R)
    (ax:aN env y=some (sj b jA bt yE)) (aA:k=min bt dl) (dY:((cs.drop jA).take k).all fb=true) (ad:jA+k≤cs.length) (fB:off+k≤cs.length) {X:ah→ao→Prop} :
    a6 P N o env (aU s L) (fun r ak=>r = .int .i64 k∧ak=aU s ((.own b,.box e (cs.take off++(cs.drop jA).take k++cs.drop (off+k)))::R)∧Ok s ((.own b,.box e (cs.take off++(cs.drop jA).take k++cs.drop (off+k)))::R)) X:=by
  refine a6.kA jd fun ro B a w p aK=>?_
  have gh:=aK.aN ab;have fl:=aK.aN ax;have eO:=fun val w'=>LX (P:=P) (a:=a) (val:=val) (w:=w) (w':=w') ai
  generalize eo:a.eval x=dN at gh eO;generalize fh:a.eval y=gb at fl eO;cases gh;cases fl;obtain ⟨info,d,g1,g2,g3,-⟩:=aR.parts aM;obtain ⟨jT,kB,cu,c2,fg,eG,jU,jq⟩:=aR.parts bO;have cg:d = .slice e:=by rw [bw] at g3;cases d<;>simp [en] at g3;rw [g3]
  subst cg;obtain ⟨vs,cW,c6,eW⟩:=aK.wf.obj _ _ (au.get I);have qL:=c6.length;have tk:bH w p ((vs.toList.drop jA).take k) ((cs.drop jA).take k):=(c6.drop _).take _;have j0:=qJ tk dY;have kE:((vs.toList.drop jA).take k).length=k:=by rw [ae9,ai8];omega
  have b9:((cs.drop jA).take k).length=k:=by rw [ae9,ai8];omega
  rw [ae5] at qL
  have cR:=run_copy_row P w t bP o.type e b off dl q' ⟨b,jA,none⟩ bt yE vs e ((vs.toList.drop jA).take k) g2 (by rw [cu];simp [eG,aa]) cW (by rw [kE,aA]) (fun j u hu=>by
    rw [lr,jH cW]
    rw [ai2] at hu
    split at hu
    · rw [ao8] at hu
      simpa using hu
    · cases hu) (by rw [kE];omega) j0
  rw [kE] at cR;obtain ⟨ea,dr,dG,m4⟩:=LY (off:=off) I aK.wf au cW c6 tk (by rw [b9];exact fB);rw [kE] at ea dr dG;rw [b9] at dr dG m4;exact ⟨_,_,_,p,_,eO _ _ cR,ea,dr,dG,⟨rfl,rfl,m4⟩,.int _ _⟩
theorem ae.G0 (aR:bR P Γ) (I:Ok s L) {t bP e:TypeId} {x y:Operand} {it aH:bQ} {b off dl q' bZ:Nat} {cs ys:List ah} {dD:bV} (aq:guardOf ops env o=some true) (ay:o.dst=some d) (a1:z2 d N=true)
  (ai:o.op = .call { callee := .builtin .copy,args := #[x,y],argTypes := #[t,bP] }) (aM:Γ.get? t=some it) (bw:it.bL = .aG e) (bO:Γ.get? e=some aH) (aa:aH.size=1) (ab:aN env x=some (sj b off dl q')) (au:bp L (.own b) (.box e cs) R)
  (ax:aN env y=some (.aG bZ ys dD)) (dg:bZ=1) (dY:ys.all fb=true) (wZ:ys.length≤dl) (fB:off+ys.length≤cs.length)
  (h:Ok s ((.own b,.box e (cs.take off++ys++cs.drop (off+ys.length)))::R)→ae P N ops l Q ((d,.int .i64 ys.length)::env) (aU s ((.own b,.box e (cs.take off++ys++cs.drop (off+ys.length)))::R))):ae P N ops (o::l) Q env (aU s L):=
 ae.op aq ay a1 (a6.G0 aR I ai aM bw bO aa ab au ax dg dY wZ fB (X:=fun _ _=>False)) (fun x ak ⟨aa,ad,aj⟩=>by subst aa;subst ad;exact h aj) (fun _ _ h=>h.elim)
theorem ae.AS (aR:bR P Γ) (I:Ok s L) {t bP e:TypeId} {x y:Operand} {it aH:bQ} {b off dl q' jA bt yE:Nat} (k:Nat) {cs:List ah} (aq:guardOf ops env o=some true) (ay:o.dst=some d) (a1:z2 d N=true)
  (ai:o.op = .call { callee := .builtin .copy,args := #[x,y],argTypes := #[t,bP] }) (aM:Γ.get? t=some it) (bw:it.bL = .aG e) (bO:Γ.get? e=some aH) (aa:aH.size=1) (ab:aN env x=some (sj b off dl q')) (au:bp L (.own b) (.box e cs) R)
  (ax:aN env y=some (sj b jA bt yE)) (aA:k=min bt dl) (dY:((cs.drop jA).take k).all fb=true) (ad:jA+k≤cs.length) (fB:off+k≤cs.length)
  (h:Ok s ((.own b,.box e (cs.take off++(cs.drop jA).take k++cs.drop (off+k)))::R)→ae P N ops l Q ((d,.int .i64 k)::env) (aU s ((.own b,.box e (cs.take off++(cs.drop jA).take k++cs.drop (off+k)))::R))):ae P N ops (o::l) Q env (aU s L):=
 ae.op aq ay a1 (a6.AS aR I ai aM bw bO aa ab au ax aA dY ad fB (X:=fun _ _=>False)) (fun x ak ⟨aa,ad,aj⟩=>by subst aa;subst ad;exact h aj) (fun _ _ h=>h.elim)
theorem bq.AS {J:ao→Prop} {m:Nat} (i:Nat) (aR:bR P Γ) (I:Ok s L) {t bP e:TypeId} {x y:Operand} {it aH:bQ} {b off dl q' jA bt yE:Nat} (k:Nat) {cs:List ah} (aE:eP l.toArray m (idxs 0 l)=[i]) (aS:l.toArray[i]? = some o) (ay:o.dst=some d) (a1:z2 d N=true)
  (aq:c8 l env o)
  (ai:o.op = .call { callee := .builtin .copy,args := #[x,y],argTypes := #[t,bP] }) (aM:Γ.get? t=some it) (bw:it.bL = .aG e) (bO:Γ.get? e=some aH) (aa:aH.size=1) (ab:aN (b2 l env o) x=some (sj b off dl q')) (au:bp L (.own b) (.box e cs) R)
  (ax:aN (b2 l env o) y=some (sj b jA bt yE)) (aA:k=min bt dl) (dY:((cs.drop jA).take k).all fb=true) (ad:jA+k≤cs.length) (fB:off+k≤cs.length)
  (aI:Ok s ((.own b,.box e (cs.take off++(cs.drop jA).take k++cs.drop (off+k)))::R)→J (aU s ((.own b,.box e (cs.take off++(cs.drop jA).take k++cs.drop (off+k)))::R))∨k2 l.toArray i=true)
  (h:Ok s ((.own b,.box e (cs.take off++(cs.drop jA).take k++cs.drop (off+k)))::R)→bq J P Γ N l.toArray Q (bX (m|||2^i)) ((d,.int .i64 k)::env) (aU s ((.own b,.box e (cs.take off++(cs.drop jA).take k++cs.drop (off+k)))::R))):bq J P Γ N l.toArray Q (bX m) env (aU s L):=
 bq.one aE aS ay a1 aq (a6.AS aR I ai aM bw bO aa ab au ax aA dY ad fB (X:=fun _ _=>False)) (fun x ak ⟨aa,ad,aj⟩=>by subst aa;subst ad;exact aI aj) (fun x ak ⟨aa,ad,aj⟩=>by subst aa;subst ad;exact h aj) (fun _ _ h=>h.elim)
theorem a6.G1 (aR:bR P Γ) {t e:TypeId} {x y:Operand} {it aH:bQ} {b n cap k:Nat} {q2:IntKind} (ai:o.op = .slice t x (some y) none none) (aM:Γ.get? t=some it) (bw:it.bL = .aG e) (bO:Γ.get? e=some aH) (aa:aH.size=1) (ab:aN env x=some (ee b n cap)) (ax:aN env y=some (.int q2 (k:Int))) (aA:k≤n) (aB:n≤cap) (Cz:k<cap) :
  a6 P N o env s (fun x ak=>x=sj b k (n-k) (cap-k)∧ak=s) (fun _ _=>False):=by
 refine a6.nI jd fun ro B a w p aK=>?_
 obtain ⟨info,d,g1,g2,g3,-⟩:=aR.parts aM;obtain ⟨jT,kB,cu,c2,fg,eG,-⟩:=aR.parts bO;have ay:d = .slice e:=by rw [bw] at g3;cases d<;>simp [en] at g3;rw [g3]
 subst ay;have aE:=aK.aN ab;have fl:=aK.aN ax;generalize eo:a.eval x=dN at aE;generalize fh:a.eval y=gb at fl;cases aE;cases fl;refine .same (val := .slice (some ⟨b,k,none⟩) (n-k) (cap-k)) ?_ (.hE _);unfold execOp;rw [ai];simp only [eo,at1,al',fh];refine gW ?_;have lx:(k:Int)≤(n:Int):=by omega
 have tL:(n:Int)≤(cap:Int):=by omega
 have an:(Instr.sliceBounds true n cap (some (.int q2 (k:Int))) none none).run P w = .ok (k,n,cap) w:=by
  simp [Instr.sliceBounds,run_sliceBound,lx,tL]
 have bo:cap-k≠0:=by omega
 simp only [Instr.sliceAt,Instr.slice,aa',run_underlying g2,i7,an,sizeOf,typeInfo,run_program,cu,ae3,eG,aa];simp [bo,lr];intro cN;omega
theorem bq.G1 {J:ao→Prop} {m:Nat} (i:Nat) (aR:bR P Γ) (c9:J s) {t e:TypeId} {x y:Operand} {it aH:bQ} {b n cap:Nat} (k:Nat) {q2:IntKind} (aE:iG l.toArray m i=true) (aS:l.toArray[i]? = some o) (ay:o.dst=some d) (a1:z2 d N=true)
  (aq:c8 l env o) (ai:o.op = .slice t x (some y) none none) (aM:Γ.get? t=some it) (bw:it.bL = .aG e) (bO:Γ.get? e=some aH) (aa:aH.size=1) (ab:aN (b2 l env o) x=some (ee b n cap)) (ax:aN (b2 l env o) y=some (.int q2 (k:Int))) (aA:k≤n) (aB:n≤cap) (Cz:k<cap)
  (h:bq J P Γ N l.toArray Q (bX (m|||2^i)) ((d,sj b k (n-k) (cap-k))::env) s):bq J P Γ N l.toArray Q (bX m) env s:=
 bq.r7 c9 aE aS ay a1 aq (fun _ _=>a6.G1 aR ai aM bw bO aa ab ax aA aB Cz) h
theorem bq.AB {J:ao→Prop} {m:Nat} (i:Nat) (aR:bR P Γ) (c9:J s) {t e:TypeId} {x y:Operand} {it aH:bQ} {b n cap:Nat} (k:Nat) {q2:IntKind} (aE:iG l.toArray m i=true) (aS:l.toArray[i]? = some o) (ay:o.dst=some d) (a1:z2 d N=true)
  (aq:c8 l env o) (ai:o.op = .slice t x none (some y) none) (aM:Γ.get? t=some it) (bw:it.bL = .aG e) (bO:Γ.get? e=some aH) (ab:aN (b2 l env o) x=some (ee b n cap)) (ax:aN (b2 l env o) y=some (.int q2 (k:Int))) (aA:k≤cap)
  (h:bq J P Γ N l.toArray Q (bX (m|||2^i)) ((d,ee b k cap)::env) s):bq J P Γ N l.toArray Q (bX m) env s:=
 bq.r7 c9 aE aS ay a1 aq (fun _ _=>a6.AB aR ai aM bw bO ab ax aA) h
end
section
variable {J:ao→Prop} {P:Program} {Γ:cw} {N:Nat} {Q:b3→Env→ao→Prop} {env:Env} {s:ao} {l:List Oper} {o:Oper} {d m:Nat}
theorem bq.sk (i:Nat) (c9:J s) {g:Operand} {name:String} {fW:Array Operand} {cZ:Array TypeId} {t:TypeId} {v:ah} {f:FuncId} {xs:List ah} {r:ah} (aE:iG l.toArray m i=true) (aS:l.toArray[i]? = some o) (ay:o.dst=some d) (a1:z2 d N=true)
  (aq:c8 l env o) (ai:o.op = .call { callee := .invoke g name,args:=fW,argTypes:=cZ }) (ar:aN (b2 l env o) g=some (.iface t v)) (aO:fS (b2 l env o) fW.toList=some xs) (hm:pU P t name f) (h:aV P f (v::xs) r)
  (aA:bq J P Γ N l.toArray Q (bX (m|||2^i)) ((d,r)::env) s):bq J P Γ N l.toArray Q (bX m) env s:=
 bq.r7 c9 aE aS ay a1 aq (fun s _=>(a6.invoke ai ar aO hm (h s)).mono (fun x ak h=>by cases h.1;exact ⟨rfl,h.2⟩) (fun x ak h=>by cases h.1)) aA
end
section
variable {J:ao→Prop} {P:Program} {Γ:cw} {N:Nat} {l:List Oper} {i:Nat} {rest:List Oper} {Q:b3→Env→ao→Prop} {env:Env} {s:ao} {o:Oper} {d:Nat}
theorem aL.sk {g:Operand} {name:String} {fW:Array Operand} {cZ:Array TypeId} {t:TypeId} {v:ah} {f:FuncId} {xs:List ah} {r:ah} (aq:c8 l env o) (ay:o.dst=some d) (a1:z2 d N=true)
  (ai:o.op = .call { callee := .invoke g name,args:=fW,argTypes:=cZ }) (ar:aN (b2 l env o) g=some (.iface t v)) (aO:fS (b2 l env o) fW.toList=some xs) (hm:pU P t name f) (h:aV P f (v::xs) r)
  (aA:aL J P Γ N l (i+1) rest Q ((d,r)::env) s):aL J P Γ N l i (o::rest) Q env s:=
 aL.calm aq ay a1 (fun s _=>(a6.invoke ai ar aO hm (h s)).mono (fun x ak h=>by cases h.1;exact ⟨rfl,h.2⟩) (fun x ak h=>by cases h.1)) aA
end
section
variable {J:ao→Prop} {P:Program} {Γ:cw} {N:Nat} {l:List Oper} {i:Nat} {rest:List Oper} {Q:b3→Env→ao→Prop} {env:Env} {s:ao} {o:Oper} {d:Nat}
theorem aL.gM {L R K:bb} {aeb:eB→bb→Prop} {g:Operand} {fv:ah} {fW:Array Operand} {cZ:Array TypeId} {xs:List ah} (aq:c8 l env o) (ay:o.dst=some d) (a1:z2 d N=true) (kj:k2 l.toArray i=true)
  (b1:o.op = .call { callee := .value g,args:=fW,argTypes:=cZ }) (ar:aN (b2 l env o) g=some fv) (aO:fS (b2 l env o) fW.toList=some xs) (h:ds P fv xs K aeb) (I:Ok s L) (au:aJ L K R)
  (aA:∀ x aQ,aeb (.ret x) aQ→Ok s (aQ++R)→Q .normal ((d,x)::env) (aU s (aQ++R))) (ab:∀ x aQ,aeb (.panic x) aQ→Ok s (aQ++R)→Q (.panic x) [] (aU s (aQ++R))):aL J P Γ N l i [o] Q env (aU s L):=
 aL.last aq ay a1 kj (a6.gM b1 ar aO h I au) (fun x ak ⟨aQ,aa,ad,aj⟩=>by subst aa;exact aA x aQ aj ad) (fun x ak ⟨aQ,aa,ad,aj⟩=>by subst aa;exact ab x aQ aj ad)
end
section
variable {J:ao→Prop} {P:Program} {Γ:cw} {N:Nat} {l:List Oper} {i:Nat} {rest:List Oper} {Q:b3→Env→ao→Prop} {env:Env} {s:ao} {o:Oper} {d:Nat}
theorem aL.gF (aR:bR P Γ) {t e:TypeId} {x y:Operand} {it aH:bQ} {b n cap:Nat} {k:IntKind} {z:Int} (j:Nat) (aq:c8 l env o) (ay:o.dst=some d) (a1:z2 d N=true)
  (ai:o.op = .indexAddr t x y) (aM:Γ.get? t=some it) (bw:it.bL = .aG e) (bO:Γ.get? e=some aH)
  (ab:aN (b2 l env o) x=some (ee b n cap)) (ax:aN (b2 l env o) y=some (.int k z)) (eJ:z=(j:Int)) (aI:j<n)
  (h:aL J P Γ N l (i+1) rest Q ((d,.ptr b (j*aH.size))::env) s):aL J P Γ N l i (o::rest) Q env s:=
 aL.calm aq ay a1 (fun _ _=>a6.gF aR ai aM bw bO ab ax eJ aI) h
end
theorem LZ:∀ {g:List bs} {len i k:Nat} {x:bs},ni len i g=true→g[k]? = some x→iH len (i+k) x=true
  | y::r,len,i,0,x,h,ab=>by
    rw [ni,f4] at h;simp at ab;subst ab;exact h.1
  | y::r,len,i,k+1,x,h,ab=>by
    rw [ni,f4] at h;have:=LZ (k:=k) h.2 uv;rw [show i+(k+1)=i+1+k by omega];exact this
theorem tM {g:List bs} {k:Nat} {x:bs} (h:fF g=true) (ab:g[k]? = some x):iH g.length k x=true:=by
 unfold fF at h;simp only [f4] at h;have:=LZ h.2.2 ab;rwa [af6] at this
theorem tN {g:List bs} (h:fF g=true):1≤g.length∧g.length≤300:=by
 unfold fF at h;simp only [f4,g6] at h;exact ⟨h.1,h.2.1⟩
theorem DB:∀ (g:List bs) (i:Nat),(e4 i g).length=g.length
 | [],_=>rfl
 | x::r,i=>by rw [e4,i5,i5,DB r]
theorem DC {l:List Int} {j:Nat} {n:Int} (aB:0≤n) (h:∀ v∈l,0≤v∧v≤n):0≤l.getD j 0∧l.getD j 0≤n:=by
 rw [d5];cases aI:l[j]? with
 | none=>exact ⟨al1 _,aB⟩
 | some v=>exact h v (d6 aI)
theorem AT:∀ (g:List bs) (i:Nat),∀ v∈e4 i g,0≤v∧v≤g.length
  | [],_,v,h=>by cases h
  | x::r,i,v,h=>by
    have aW:=AT r (i+1);have aa:=DC (j:=x.no.toNat-(i+1)) ag aW;have ad:=DC (j:=x.yes.toNat-(i+1)) ag aW;rw [e4] at h;rw [i5];rcases ae8.1 h with rfl|h
    · split<;>omega
    · have:=aW v h;omega
def js (g:List bs) (j:Nat):List Int:=H1 j 0++e4 j (g.drop j)
theorem L0 {g:List bs} {j:Nat} (h:j≤g.length):(js g j).length=g.length:=by
 unfold js;rw [f9,ag2,DB,ai8];omega
theorem L1 {g:List bs} {k:Nat} {n:Int} (aa:n>(k:Int)) (ad:n<(g.length:Int)):((js g (k+1)).map bg)[n.toNat*1]? = some (.int .i64 ((e4 (k+1) (g.drop (k+1))).getD (n.toNat-(k+1)) 0)):=by
 have aC:n.toNat<(js g (k+1)).length:=by rw [L0 ag];omega
 unfold js at aC ⊢;rw [aj3,ae7,ae' cL,ag2,d5];rw [f9,ag2] at aC;rw [d8 ag];rfl
theorem UY {g:List bs} {k:Nat} {x:bs} {v:Int} (ab:g[k]? = some x) (aO:x.atom≥0) (ar:v=1+max ((e4 (k+1) (g.drop (k+1))).getD (x.no.toNat-(k+1)) 0) ((e4 (k+1) (g.drop (k+1))).getD (x.yes.toNat-(k+1)) 0)) :
  eV (k*1) [.int .i64 v] ((js g (k+1)).map bg)=(js g k).map bg:=by
 rw [si,aj3];unfold js;rw [drop_cons ab,e4,f7 aO,← ar,ap3,ag',ae1,ae1,al6 _ _ bc];simp [bg]
theorem UZ {g:List bs} {k:Nat} {x:bs} (ab:g[k]? = some x) (aO:¬ x.atom≥0):js g (k+1)=js g k:=by
 unfold js;rw [drop_cons ab,e4,d7 aO,ap3,ag'];rfl
theorem AU (g:List bs) (aq:g.length<bx):aV d0 18 [e7 g] (.cr [.int .i64 (if fF g then fi g else 0),.int .i64 (if fF g then 0 else 2)]):=by
 have an:=bE;refine aV.bl al Tryz.func18 C C fun s I=>?_
 have aX:=DA g aq;unfold e7 at *;cases gk:fF g with
 | false=>
  rw [gk] at aX;refine cl ?_;exact br I
 | true=>
 rw [gk] at aX;obtain ⟨oh,eQ⟩:=tN gk;have j2:((g.map eR).length:Int)=(g.length:Int):=by rw [f8]
 refine cl ?_;refine ae.yD al I g.length C C C C C C C C C C (ae6 (fun z=>some (ah.int .i64 z)) j2) (ae6 (fun z=>some (ah.int .i64 z)) j2) (by show _*8≤_;omega) ag (fun b I=>?_);rw [show H1 g.length (ah.int .i64 0)=(js g g.length).map bg by unfold js;rw [eE (g7 _),e4,d9,List.map_replicate];rfl] at I ⊢;refine bK ?_;have hw:ac' .i64 ((g.length:Int)-1)=(g.length:Int)-1:=ev ag ag;refine af.ck [0,4] C I (σ:=Nat) (fun j=>[(5,.int .i64 ((j:Int)-1))]) (fun j=>[(.own b,.box 3 ((js g j).map bg))]) (fun j=>j≤g.length) (fun j=>j) g.length (g7 _) (by repeat (first|exact trivial|refine ⟨⟨_,rfl,aT⟩,?_⟩|refine ⟨⟨_,rfl,aZ.of_eq (by (rw [j2,hw]))⟩,?_⟩)) ba ?_;rintro j aI I;refine cf ?_;cases j with
 | zero=>
  refine af.cond C (fun h=>by simp at h) (fun _=>?_);refine bK ?_;refine ae.gF al 0 C C C C C C C C C C ag ?_
  refine ae.lF al I C C C C C C a' C (v := .int .i64 (fi g)) (by
   unfold js fi
   rw [an2,List.replicate_zero,f0,ae7,d8 (by rw [DB];omega),d5,d8 (by rw [DB];omega)];rfl) ?_
  refine ep ?_;exact br I
 | succ k=>
 have e:(((k+1:Nat):Int)-1)=(k:Int):=by omega
 rw [e];refine af.cond C (fun _=>?_) (fun h=>by simp at h);obtain ⟨x,ab,ch⟩:=b7 (f:=eR) (show k<g.length by omega);have a1:=tM gk ab;unfold eR gO bj at ch;refine eh ?_;refine af.cond C (fun aO=>?_) (fun aO=>?_);rotate_left
 ·have aO:¬ x.atom≥0:=by simpa using aO
  rw [UZ ab aO] at I ⊢;refine fV ?_;exact bD.mk k I (by show k≤g.length;omega) Ar ba (by show k<k+1;omega)
 have aO:x.atom≥0:=by simpa using aO
 have di:=(kk ag).1 a1;have hJ:=DC (j:=x.no.toNat-(k+1)) (n:=300) ag (fun v ar=>⟨(AT (g.drop (k+1)) (k+1) v ar).1,by have:=(AT (g.drop (k+1)) (k+1) v ar).2;rw [ai8] at this;omega⟩);have acP:=DC (j:=x.yes.toNat-(k+1)) (n:=300) ag (fun v ar=>⟨(AT (g.drop (k+1)) (k+1) v ar).1,by have:=(AT (g.drop (k+1)) (k+1) v ar).2;rw [ai8] at this;omega⟩)
 have wa:=UY ab aO (v:=ac' .i64 (1+(if (e4 (k+1) (g.drop (k+1))).getD (x.yes.toNat-(k+1)) 0>(e4 (k+1) (g.drop (k+1))).getD (x.no.toNat-(k+1)) 0 then (e4 (k+1) (g.drop (k+1))).getD (x.yes.toNat-(k+1)) 0 else (e4 (k+1) (g.drop (k+1))).getD (x.no.toNat-(k+1)) 0))) (by
  rw [ev (by split<;>omega) (by split<;>omega)];split<;>omega)
 refine pd ?_;refine aL.gF al x.no.toNat C C C C C C C C C ag ag ?_;refine aL.lF al I C C C C C C a' C (L1 di.2.2.1 di.2.2.2.1) ?_;refine c5 ?_;refine aL.gF al x.yes.toNat C C C C C C C C C ag ag ?_;refine aL.lF al I C C C C C C a' C (L1 di.2.2.2.2.1 di.2.2.2.2.2.1) ?_;refine c5 ?_;refine aL.gF al k C C C C C C C C C C ag ?_;refine aL.mK al I _ C C C C C C C C C C a' (by rw [f8,L0 ag];show k*1+1≤_;omega) wa (fun I=>?_);refine fV ?_;exact bD.mk k I (by show k≤g.length;omega) Ar ba (by show k<k+1;omega)
def w0:Nat→List (List Int)→Bool
 | _,[]=>true
 | i,l::r=>mH 3 i [] l&&w0 (i+1) r
structure fw (w:bz):Prop where
 ji:w.ps.length≤60
 short:∀ l∈w.ps,l.length≤3
 mL:w0 0 w.ps=true
 bm:w.owner.length≤40
 own:∀ o∈w.owner,3≤o∧o<3+(w.ps.length:Int)
def sl (up:List Nat) (l:List Int):Nat:=l.foldl (fun s p=>s|||up.getD p.toNat 0) (1|||2^up.length)
def j4:List Nat→List (List Int)→List Nat
 | up,[]=>up
 | up,l::r=>j4 (up++[sl up l]) r
def dM (ps:List (List Int)):List Nat:=j4 [1,3,5] ps
theorem L2:∀ (ps:List (List Int)) (up:List Nat),(j4 up ps).length=up.length+ps.length
 | [],up=>rfl
 | l::r,up=>by rw [j4,L2 r,f9,ag8,i5];omega
theorem tO (ps:List (List Int)):(dM ps).length=3+ps.length:=L2 ps _
theorem DD:∀ {ps:List (List Int)} {i j:Nat} {l:List Int},w0 i ps=true→ps[j]? = some l→mH 3 ((i+j:Nat):Int) [] l=true
  | l::r,i,0,x,h,ab=>by
    rw [w0,f4] at h;have:l=x:=by simpa using ab
    subst this;exact h.1
  | l::r,i,j+1,x,h,ab=>by
    rw [w0,f4] at h;have:=DD (j:=j) h.2 uv;rw [show i+(j+1)=i+1+j by omega];exact this
theorem DE {i:Int}:∀ {l seen:List Int} {k:Nat} {p:Int},mH 3 i seen l=true→l[k]? = some p→3≤p∧p<3+i∧p∉seen++l.take k
  | c::r,seen,0,p,h,aF=>by
    rw [mH] at h;simp only [f4,g6,Bool.not_eq_true',List.contains_eq_mem,decide_eq_false_iff_not] at h;have:c=p:=by simpa using aF
    subst this;refine ⟨h.1,h.2.1,by simpa using h.2.2.1⟩
  | c::r,seen,k+1,p,h,aF=>by
    rw [mH] at h;simp only [f4,g6] at h;have:=DE (k:=k) h.2.2.2 (by simpa using aF);refine ⟨this.1,this.2.1,?_⟩;rw [List.take_succ_cons];have aj:=this.2.2;simpa using aj
theorem G2 {m n:Nat} (h:m<2^64) (k:n<2^64):m|||n<2^64:=aj0 h k
theorem U0 {up:List Nat} (h:∀ m∈up,m<2^64) (k:Nat):up.getD k 0<2^64:=by
 rw [d5];cases ab:up[k]? with
 | none=>exact Nat.two_pow_pos 64
 | some x=>exact h x (d6 ab)
theorem G3 {up:List Nat} (h:∀ m∈up,m<2^64):∀ (l:List Int) (s:Nat),s<2^64→l.foldl (fun s p=>s|||up.getD p.toNat 0) s<2^64
 | [],s,au=>au
 | p::r,s,au=>G3 h r _ (G2 au (U0 h _))
theorem U1 {up:List Nat} (h:∀ m∈up,m<2^64) (aC:up.length<64) (l:List Int):sl up l<2^64:=
 G3 h l _ (G2 dV (ai6 ag aC))
theorem L3:∀ (ps:List (List Int)) (up:List Nat),(∀ m∈up,m<2^64)→up.length+ps.length<64→∀ m∈j4 up ps,m<2^64
  | [],up,h,_=>h
  | l::r,up,h,aC=>by
    rw [i5] at aC;rw [j4];refine L3 r _ (fun m hm=>?_) (by rw [f9,ag8];omega);rcases ae2.1 hm with hm|hm
    · exact h m hm
    · rw [t6] at hm;subst hm
      exact U1 h ag l
theorem yF {ps:List (List Int)} (h:ps.length≤60):∀ m∈dM ps,m<2^64:=
 L3 ps _ (by intro m hm;simp at hm;rcases hm with rfl|rfl|rfl<;>decide) cL
theorem L4 (l:List Int):∀ (ps:List (List Int)) (up:List Nat),j4 up (ps++[l])=j4 up ps++[sl (j4 up ps) l]
 | [],up=>rfl
 | x::r,up=>by rw [ab',j4,L4 l r,← j4]
theorem L5 (ps:List (List Int)) (l:List Int):dM (ps++[l])=dM ps++[sl (dM ps) l]:=L4 l ps _
def pad (u:List Nat):List Nat:=u++H1 (63-u.length) 0
theorem U2 {u:List Nat} (h:u.length≤63):(pad u).length=63:=by unfold pad;simp;omega
theorem yG {u:List Nat} {i:Nat} {m:Nat} (h:u[i]? = some m):(pad u)[i]? = some m:=by
 unfold pad;rw [af9 (t7.1 h).1];exact h
theorem U3 {u:List Nat} (h:u.length<63) (v:Nat):(pad u).set u.length v=pad (u++[v]):=by
 unfold pad;rw [al6 _ _ (g7 _),Nat.sub_self,ag',f9,ag8];congr 1;obtain ⟨n,aB⟩:∃ n,63-u.length=n+1:=⟨62-u.length,by omega⟩;have ad:63-(u.length+1)=n:=by omega
 rw [aB,ad,List.replicate_succ];rfl
mutual
def gy (w:bz):av→Bool
 | .mk o a p c n ks=>hM w (.mk o a p c n ks)&&j5 w ks
def j5 (w:bz):List av→Bool
 | []=>true
 | x::r=>gy w x&&j5 w r
end
theorem oC (w:bz) (f:av):gy w f=(hM w f&&j5 w f.kids):=by cases f;rw [gy];rfl
theorem kl {w:bz}:∀ {l:List av} {x:av},j5 w l=true→x∈l→gy w x=true
  | y::r,x,h,ab=>by
    rw [j5,f4] at h;rcases ae8.1 ab with rfl|ab
    · exact h.1
    · exact kl h.2 ab
mutual
theorem sm:∀ (f:av) (w:bz) (d:Nat) (k:Int),(e2 w d k f).1=true→gy w f=true
  | .mk o a p c n ks,w,d,k,h=>by
    rw [e2] at h;split at h
    · cases h
    · split at h
      · rename_i aB
        rw [gy,aB,f5];exact L6 ks w _ _ h
      · cases h
theorem L6:∀ (l:List av) (w:bz) (d:Nat) (k:Int),(ha w d k l).1=true→j5 w l=true
  | [],_,_,_,_=>rfl
  | x::r,w,d,k,h=>by
    rw [ha] at h;split at h
    · rename_i ab
      rw [j5,sm x w d k ab,L6 r w d _ h];rfl
    · cases h
end
mutual
def iV:av→Int
 | .mk o a p c n ks=>hb (if (av.mk o a p c n ks).cU then a+1 else 0) ks
def hb (m:Int):List av→Int
 | []=>m
 | x::r=>hb (max m (iV x)) r
end
theorem yH (f:av):iV f=hb (if f.cU then f.arg+1 else 0) f.kids:=by cases f;rw [iV];rfl
theorem G4:∀ (l r:List av) (m:Int),hb m (l++r)=hb (hb m l) r
 | [],r,m=>by rw [f0,hb]
 | x::l,r,m=>by rw [ab',hb,hb,G4 l r]
theorem u6:∀ (l:List av) (m:Int),m≤hb m l∧∀ x∈l,iV x≤hb m l
  | [],m=>⟨by rw [hb];exact al1 _,fun x h=>by cases h⟩
  | x::r,m=>by
    have aW:=u6 r (max m (iV x));rw [hb];refine ⟨by have:=aW.1;omega,fun y ax=>?_⟩;rcases ae8.1 ax with rfl|ax
    · have:=aW.1;omega
    · exact aW.2 y ax
def ff (n:Int) (v:Int×Int):Bool:=
 if v.1=1 then j3 v.2 else if v.1=2 then decide (v.2=0) else decide (v.1=3)&&(decide (v.2≥0)&&decide (v.2<n))
def kI (w:bz) (m:Nat):List Int:=((List.range w.owner.length).filter fun s=>m.testBit (w.owner.getD s 0).toNat).map fun (s:Nat)=>(s:Int)
def sn (w:bz) (c:Int):Bool:=decide (c≥3)&&decide (c<3+(w.ps.length:Int))
def tP (w:bz) (n:Int) (o:c3):Bool:=sn w o.cls&&(decide (o.bm.length=(kI w ((dM w.ps).getD o.cls.toNat 0)).length)&&o.bm.all (ff n))
def tQ (w:bz) (aP:List c3):Bool:=decide (aP.length≤40)&&aP.all (tP w aP.length)
def nU (w:bz) (aP:List c3) (args:List (Int×Int)):Bool:=
 tQ w aP&&(decide (args.length≥1)&&(decide (args.length≤3)&&args.all (ff aP.length)))
def hc (w:bz) (c:Int):Nat:=(dM w.ps).getD c.toNat 0
def ht (w:bz) (aP:List c3):Int×Int→List Int→Option (Int×Int)
 | v,[]=>some v
 | v,s::r=>
  let o:=aP.getD v.2.toNat default
  if v.1≠3 then none
  else if (hc w o.cls).testBit (w.owner.getD s.toNat 0).toNat then
   ht w aP (o.bm.getD (((kI w (hc w o.cls)).findIdx? (· == s)).getD 0) (0,0)) r
  else none
def nV (w:bz) (aP:List c3) (args:List (Int×Int)) (f:av):Bool:=
 match ht w aP (args.getD f.arg.toNat (0,0)) f.path with
 | none=>false
 | some v=>
  if f.op=2 then (if v.1=3 then (hc w (aP.getD v.2.toNat default).cls).testBit f.cls.toNat else (hc w v.1).testBit f.cls.toNat)
  else decide (v.1=1)&&((decide (v.2=f.n)==decide (f.op=4))&&decide (v.2≤f.n))
mutual
def mO (w:bz) (aP:List c3) (args:List (Int×Int)):av→Bool
 | .mk o a p c n ks=>
  if o=1 then true
  else if o=5 then !(nW w aP args 0 ks)
  else if o=6 then nW w aP args 0 ks&&nW w aP args 1 ks
  else if o=7 then nW w aP args 0 ks||nW w aP args 1 ks
  else nV w aP args (.mk o a p c n ks)
def nW (w:bz) (aP:List c3) (args:List (Int×Int)):Nat→List av→Bool
 | _,[]=>false
 | 0,x::_=>mO w aP args x
 | n+1,_::r=>nW w aP args n r
end
theorem u7 (w:bz) (aP:List c3) (args:List (Int×Int)):∀ (n:Nat) (l:List av) (x:av),l[n]? = some x→nW w aP args n l=mO w aP args x
 | 0,y::r,x,h=>by rw [nW];simp at h;rw [h]
 | n+1,y::r,x,h=>by rw [nW];exact u7 w aP args n r x hx
theorem AV (w:bz) (aP:List c3) (args:List (Int×Int)) (f:av):mO w aP args f =
  if f.op=1 then true
  else if f.op=5 then !(nW w aP args 0 f.kids)
  else if f.op=6 then nW w aP args 0 f.kids&&nW w aP args 1 f.kids
  else if f.op=7 then nW w aP args 0 f.kids||nW w aP args 1 f.kids
  else nV w aP args f:=by cases f;rw [mO];rfl
def hh (p:bN):List (List Int):=p.cm.map fL.parents
def fG:Nat→List fL→List Int
 | _,[]=>[]
 | i,c::r=>H1 c.bm.length ((i:Int)+3)++fG (i+1) r
def bY (p:bN):bz:=⟨hh p,fG 0 p.cm⟩
def nX:Int→List Int→Option Int
 | n,[]=>some n
 | n,s::r=>if s=n then nX (n+1) r else none
def lG:Int→List fL→Option Int
 | n,[]=>some n
 | n,c::r=>if c.bm.length≤4 then (nX n c.bm).bind fun m=>lG m r else none
def oD (cs:List fL):Nat→List Int→List Int→List Int
 | 0,_,out=>out
 | k+1,up,out=>
  if up.contains ((k:Int)+3) then oD cs k (up++(cs.getD k default).parents) (out++(cs.getD k default).bm)
  else oD cs k up out
def pk (l:List Int):List Int:=l.mergeSort fun a b=>decide (a≤b)
def pn (p:bN) (c:Nat):List Int:=pk (oD p.cm (c+1) [(c:Int)+3] [])
def ra (w1:List Int):List Int→List iT→Bool
 | _,[]=>true
 | seen,x::r=>w1.contains x.slot&&(!seen.contains x.slot&&(j3 x.n&&ra w1 (seen++[x.slot]) r))
def yI (p:bN) (i:Nat):List Int:=(fE (hh p) (2+(hh p).length)).getD i []
def G5 (p:bN) (i:Nat) (c:fL):Bool := !(yI p (i+3)).isEmpty&&ra (pn p i) [] c.inits
def rb (p:bN):Nat→List fL→Bool
 | _,[]=>true
 | i,c::r=>G5 p i c&&rb p (i+1) r
def po (p:bN):Bool:=decide (p.cm.length≤10)&&((lG 0 p.cm==some p.bm)&&(mI (hh p)&&rb p 0 p.cm))
def nm (p:bN) (x:iU) (size:Int):Bool:=
 if x.op=1 then j3 x.n
 else if x.op=3 then decide (x.n≥0)&&decide (x.n<size)
 else if x.op=4∨x.op=7 then decide (x.n≥0)&&decide (x.n<p.bm)
 else if x.op=6∨x.op=8 then decide (x.n≥3)&&decide (x.n<3+(p.cm.length:Int))
 else if x.op=5 then decide (x.n≥0)&&decide (x.n<(p.dt.length:Int))
 else decide (x.n≥0)&&decide (x.n<1)
def so (p:bN) (x:iU):Option Int:=
 if x.op=5 then some (p.dt.getD x.n.toNat 0)
 else if x.op=1∨x.op=2∨x.op=3∨x.op=6∨x.op=18 then some 0
 else if x.op=4∨x.op=8∨x.op=17 then some 1
 else if x.op=7∨x.op=9∨x.op=11∨x.op=12∨x.op=13∨x.op=14∨x.op=15∨x.op=16 then some 2
 else if x.op=10 then some 3
 else none
def yJ (p:bN) (next:Bool) (x:iU) (size:Int):Bool:=nm p x size&&((next||decide (x.op≠18))&&(so p x==some (x.kids.length:Int)))
def lH (g:Int→Int→List Int→Option (List Int)) (isLet:Bool) (size:Int):Nat→List Int→List Int→Option (List Int)
 | _,[],out=>some out
 | i,k::r,out=>(g k (if isLet&&i==1 then size+1 else size) out).bind (lH g isLet size (i+1) r)
def pq (p:bN) (n:Int) (out:List Int):Bool:=decide (n≥0)&&(decide (n<(p.nodes.length:Int))&&decide (out.getD n.toNat 0<0))
def visitM (p:bN) (next:Bool):Nat→Int→Int→List Int→Option (List Int)
 | 0,_,_,_=>none
 | f+1,n,size,out=>
  if pq p n out then
   if yJ p next (p.nodes.getD n.toNat default) size then lH (visitM p next f) (decide ((p.nodes.getD n.toNat default).op=9)) size 0 (p.nodes.getD n.toNat default).kids (out.set n.toNat size)
   else none
  else none
def sq (p:bN) (m:gN):Bool:=
 decide (m.kind≥1)&&(decide (m.kind≤4)&&(decide (m.gen≥0)&&(decide (m.gen<(p.dt.length:Int))&&(ig (bY p) m.fact&&decide (iV m.fact≤p.dt.getD m.gen.toNat 0)))))
def tR (k:Int):Bool:=decide (k=1)||decide (k=4)
def nY (p:bN):List gN→List Int→Option (List Int)
 | [],out=>some out
 | m::r,out=>if sq p m then (visitM p (tR m.kind) 12 m.node (p.dt.getD m.gen.toNat 0) out).bind (nY p r) else none
def p6 (p:bN):Bool:=
 decide (p.dt.length≤8)&&(decide (p.methods.length≤16)&&(decide (p.nodes.length≥1)&&(decide (p.nodes.length≤120)&&p.dt.all fun n=>decide (n≥1)&&decide (n≤3))))
def nZ (p:bN):Option (List Int):=
 if po p&&p6 p then
  (nY p p.methods (H1 p.nodes.length (-1))).bind fun out=>(visitM p false 12 p.main 0 out).bind fun out=>if out.contains (-1) then none else some out
 else none
def fX (p:bN):Bool:=(nZ p).isSome
theorem L7:∀ (l:List fL) (i:Nat),(∀ c∈l,c.bm.length≤4)→(fG i l).length≤4*l.length
  | [],_,_=>g7 _
  | c::r,i,h=>by
    have aa:=L7 r (i+1) (fun x ab=>h x (i0 _ ab));have ad:=h c i6;rw [fG,f9,ag2,i5];omega
theorem DF:∀ (l:List fL) (i:Nat),∀ o∈fG i l,(i:Int)+3≤o∧o<3+(i:Int)+(l.length:Int)
  | [],_,o,h=>by cases h
  | c::r,i,o,h=>by
    rw [fG] at h;rcases ae2.1 h with h|h
    · obtain ⟨_,rfl⟩:=at8.1 h
      rw [i5];omega
    · have:=DF r (i+1) o h
      rw [i5];omega
theorem G6:∀ {l:List fL} {n m:Int},lG n l=some m→∀ c∈l,c.bm.length≤4
  | c::r,n,m,h,x,ab=>by
    rw [lG] at h;split at h
    · rename_i aD
      cases aB:nX n c.bm with
      | none=>rw [aB] at h;cases h
      | some k=>
        rw [aB] at h;rcases ae8.1 ab with rfl|ab
        · exact aD
        · exact G6 (l:=r) h x ab
    · cases h
theorem L8:∀ (g:List (List Int)) (i:Nat),oy i g=true→w0 i g=true∧∀ l∈g,l.length≤3
  | [],_,_=>⟨rfl,fun l h=>by cases h⟩
  | x::r,i,h=>by
    rw [oy] at h;simp only [f4,g6] at h;obtain ⟨aa,ad⟩:=L8 r (i+1) h.2.2;refine ⟨by rw [w0,h.2.1,aa];rfl,fun l aC=>?_⟩;rcases ae8.1 aC with rfl|aC
    · exact h.1
    · exact ad l aC
theorem L9 {p:bN} (aD:p.cm.length≤10) {n:Int} (au:lG 0 p.cm=some n) (aq:mI (hh p)=true):fw (bY p):=by
 unfold mI at aq;rw [f4] at aq;obtain ⟨g1,g2⟩:=L8 _ _ aq.2;have aC:(hh p).length=p.cm.length:=f8 _;have aa:=L7 p.cm 0 (G6 au);refine ⟨by show (hh p).length≤60;omega,g2,g1,by show (fG 0 p.cm).length≤40;omega,fun o ai=>?_⟩;have:=DF p.cm 0 o ai;show 3≤o∧o<3+((hh p).length:Int);omega
theorem G7 {p:bN} (h:po p=true):fw (bY p):=by
 unfold po at h;simp only [f4,g6,am5] at h;exact L9 h.1 h.2.1 h.2.2.1
abbrev cv:=av×Bool
def w2 (x y:cv):Bool:=(x.2==y.2)&&av.same x.1 y.1
theorem U4 (x y:cv):w2 x y=true↔x=y:=by
 obtain ⟨f,b⟩:=x;obtain ⟨g,c⟩:=y;unfold w2;simp only [f4,am5,av.LA,Prod.mk.injEq];exact And.comm
def re (out:List cv) (x:cv):List cv:=if out.any (w2 x) then out else out++[x]
def jO (a b:List cv):List cv:=b.foldl re a
theorem G8:∀ (b a:List cv),(jO a b).length≤a.length+b.length
  | [],a=>g7 _
  | x::r,a=>by
    have aa:=G8 r (re a x);have ad:(re a x).length≤a.length+1:=by
      unfold re;split
      · omega
      · simp
    have aj:jO a (x::r)=jO (re a x) r:=rfl;rw [aj,i5];omega
theorem DG {y:cv}:∀ (b a:List cv),y∈jO a b→y∈a∨y∈b
  | [],a,h => .inl h
  | x::r,a,h=>by
    rcases DG r (re a x) h with h|h
    · unfold re at h
      split at h
      · exact .inl h
      · rcases ae2.1 h with h|h
        · exact .inl h
        · exact .inr (by rw [t6] at h;subst h;exact i6)
    · exact .inr (i0 _ h)
mutual
def h6 (rf:Bool):av→List (List cv)
 | .mk o a p c n ks=>
  if o=1 then (if rf then [] else [[]])
  else if o=5 then ih (!rf) 0 ks
  else if (av.mk o a p c n ks).cU then [[(.mk o a p c n ks,rf)]]
  else if rf=decide (o=6) then ih rf 0 ks++ih rf 1 ks
  else (ih rf 0 ks).flatMap fun x=>(ih rf 1 ks).map (jO x)
def ih (rf:Bool):Nat→List av→List (List cv)
 | _,[]=>[]
 | 0,x::_=>h6 rf x
 | n+1,_::r=>ih rf n r
end
theorem tS (c:Bool):∀ (n:Nat) (l:List av) (x:av),l[n]? = some x→ih c n l=h6 c x
 | 0,y::r,x,h=>by rw [ih];simp at h;rw [h]
 | n+1,y::r,x,h=>by rw [ih];exact tS c n r x hx
theorem L' (b:Bool) (f:av):h6 b f=if f.op=1 then (if b then [] else [[]])
  else if f.op=5 then ih (!b) 0 f.kids
  else if f.cU then [[(f,b)]]
  else if b=decide (f.op=6) then ih b 0 f.kids++ih b 1 f.kids
  else (ih b 0 f.kids).flatMap fun x=>(ih b 1 f.kids).map (jO x):=by cases f;rw [h6];rfl
def Ma (n:Nat) (l:List cv):Prop:=l.length≤n∧∀ x∈l,x.1.size≤n
theorem Mb (f:av):1≤f.size:=by rw [av.size_eq];omega
mutual
theorem G9:∀ (f:av) (b:Bool),∀ l∈h6 b f,Ma f.size l
  | .mk o a p c n ks,b,l,h=>by
    rw [h6] at h;have iu:=(av.mk o a p c n ks).size_eq;have G':(av.mk o a p c n ks).kids=ks:=rfl;rw [G'] at iu;split at h
    · split at h
      · cases h
      · rw [t6] at h;subst h;exact ⟨by simp,by simp⟩
    · split at h
      · have:=u9 ks _ 0 l h
        exact ⟨by have:=this.1;omega,fun x ab=>by have:=this.2 x ab;omega⟩
      · split at h
        · rw [t6] at h;subst h
          exact ⟨Mb _,fun x ab=>by rw [t6] at ab;subst ab;exact g7 _⟩
        · split at h
          · rcases ae2.1 h with h|h
            · have:=u9 ks _ 0 l h
              exact ⟨by have:=this.1;omega,fun x ab=>by have:=this.2 x ab;omega⟩
            · have:=u9 ks _ 1 l h
              exact ⟨by have:=this.1;omega,fun x ab=>by have:=this.2 x ab;omega⟩
          · obtain ⟨x,ab,h⟩:=List.mem_flatMap.1 h
            obtain ⟨y,ax,rfl⟩:=af8.1 h;have aa:=Mc ks b x y ab ax;refine ⟨by have:=G8 y x;omega,fun z bG=>?_⟩;rcases DG y x bG with bG|bG
            · have:=(u9 ks _ 0 x ab).2 z bG;omega
            · have:=(u9 ks _ 1 y ax).2 z bG;omega
theorem u9:∀ (ks:List av) (b:Bool) (n:Nat),∀ l∈ih b n ks,Ma (av.iS ks) l
  | [],b,n,l,h=>by rw [ih] at h;cases h
  | x::r,b,0,l,h=>by
    rw [ih] at h;have:=G9 x b l h;rw [av.iS];exact ⟨by have:=this.1;omega,fun y ax=>by have:=this.2 y ax;omega⟩
  | x::r,b,n+1,l,h=>by
    rw [ih] at h;have:=u9 r b n l h;rw [av.iS];exact ⟨by have:=this.1;omega,fun y ax=>by have:=this.2 y ax;omega⟩
theorem Mc:∀ (ks:List av) (b:Bool) (x y:List cv),x∈ih b 0 ks→y∈ih b 1 ks→x.length+y.length≤av.iS ks
  | [],b,x,y,h,_=>by rw [ih] at h;cases h
  | k::r,b,x,y,h,eY=>by
    rw [tS b 0 (k::r) k C] at h;rw [show (1:Nat)=0+1 from rfl,ih] at eY;have aa:=(G9 k b x h).1;have ad:=(u9 r b 0 y eY).1;rw [av.iS];omega
end
end Go.Proofs.YtnafpeohfbglmaaGreat
