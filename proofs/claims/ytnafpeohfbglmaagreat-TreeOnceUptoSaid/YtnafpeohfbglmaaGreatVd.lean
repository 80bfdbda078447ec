import Derived.Test.YtnafpeohfbglmaaGreatVc
import Derived.Shelf.Sort.Plain
import Derived.KernelRfl
import Derived.WalkKit
import Derived.Defers
import Derived.Recover
import Derived.Laws.MakeOwn
import Derived.Laws.CopyRow
set_option linter.unusedVariables false
set_option linter.unusedSimpArgs false
set_option maxRecDepth 100000
set_option maxHeartbeats 4000000
open Array renaming ext_getElem?→aw1,getElem?_eq_some_iff→t8,getElem?_modify→ao7,getElem?_toList→av0,length_toList→ae9,replicate→al3
open BitVec renaming ofInt→ak1,ofNat→aA3,toNat_and→ax1,toNat_ofNat→al2,toNat_or→aB9
open Bool renaming and_eq_true→f9,eq_false_iff→af5,false_and→f6,not_false→aj3,not_true→aj',true_and→f5
open Int renaming le_refl→ak6,toNat_natCast→i9
open Go.IntKind renaming bits→am5,signed→ay3,wrap→ad5
open List renaming append_assoc→af9,append_nil→d7,cons_append→ad',cons_beq_cons→as6,drop_zero→al7,findIdx?_eq_none_iff→ah',findIdx?_eq_some_iff_getElem→ah3,getD_eq_getElem?_getD→d5,getElem?_append_left→af',getElem?_append_right→af0,getElem?_drop→ao6,getElem?_eq_getElem→f7,getElem?_eq_some_iff→t7,getElem?_map→af3,getElem?_of_mem→ag2,getElem?_take→ai2,getElem_mem→am9,isEmpty→aq2,length_append→f8,length_cons→i0,length_drop→ai5,length_filter_le→aj1,length_map→f0,length_replicate→ag1,length_singleton→ag',length_take_le'→al1,length_take→ae8,map_append→ae1,map_cons→ae2,map_nil→ah2,map_take→ap7,map_toArray→ar7,mem_append→ae4,mem_cons_of_mem→i6,mem_cons_self→i8,mem_cons→af1,mem_filter→ae3,mem_map→ag0,mem_of_getElem?→d6,mem_replicate→au4,mem_singleton→t6,nil_append→d8,replicate_succ'→ap4,replicate→ab',set_append_right→al4,size_toArray→an3,take_append_drop→ai7,take_append_of_le_length→ah6,take_length→ae6,take_of_length_le→ag8
open Nat renaming and_le_left→av3,beq→af2,blt→aa',eq_of_beq_eq_true→ae0,eq_of_testBit_eq→al8,le_add_right→aA',le_refl→g9,le_trans→am',lt_of_le_of_lt→aj6,lt_of_lt_of_le→ak8,lt_succ_iff_lt_or_eq→ah5,min_eq_left→am6,mod_eq_of_lt→am0,mul_le_mul_right→am8,mul_one→ai8,not_lt_zero→ao9,or_lt_two_pow→aj2,pow_lt_pow_right→ai4,sub_zero→az8,testBit_and→ak2,testBit_two_pow_sub_one→ai1,zero_add→af8,zero_le→g8
open Option renaming map_none→at7,map_some→ao2
open Go.Result renaming andThen_ok→i5
open Go.Sem renaming runT_eq→au',run_bind→ac',run_pure→ae5
open Go.Proofs.Tryz renaming prog→d0
namespace Go.Proofs.YtnafpeohfbglmaaGreat
theorem GC {p:Prop} (h:p:=by rw [bu];exact (by simp only [List.length_map,List.length_nil];exact a1)):p:=h
theorem Av {p:Prop} (h:p:=by repeat (first|exact trivial|refine ⟨⟨_,rfl,aO⟩,?_⟩|refine ⟨⟨_,rfl,aU.of_eq (by (first|rw [iN (by omega)]|(rw [List.map_append];rfl)))⟩,?_⟩)):p:=h
theorem Aw {p:Prop} (h:p:=by repeat (first|exact trivial|refine ⟨⟨_,rfl,aO⟩,?_⟩|refine ⟨⟨_,rfl,aU.of_eq (by (rw [ee (by omega) (by omega)];push_cast;rfl))⟩,?_⟩)):p:=h
theorem Dn {p:Prop} (h:p:=by repeat (first|exact trivial|refine ⟨⟨_,rfl,aO⟩,?_⟩|refine ⟨⟨_,rfl,aU.of_eq (by (rw [ee (by omega) (by omega)];rfl))⟩,?_⟩)):p:=h
theorem ly {p:Prop} (h:p:=by repeat (first|exact trivial|refine ⟨⟨_,rfl,aO⟩,?_⟩|refine ⟨⟨_,rfl,aU.of_eq (by (first|rw [iN (by omega)]|rw [ar]))⟩,?_⟩)):p:=h
theorem yr {p:Prop} (h:p:=by repeat (first|exact trivial|refine ⟨⟨_,rfl,aO⟩,?_⟩|refine ⟨⟨_,rfl,aU.of_eq (by (rw [ee (by omega) (by omega)]))⟩,?_⟩)):p:=h
theorem Ax {p:Prop} (h:p:=by repeat (first|exact trivial|refine ⟨⟨_,rfl,aO⟩,?_⟩|refine ⟨⟨_,rfl,aU.of_eq (by simp)⟩,?_⟩)):p:=h
theorem GD {p:Prop} (h:p:=by show aI _ [(_,.row _ _ (xs (j+1)).length)] _;rw [df];exact aI.cons bo.here .nil):p:=h
theorem GF {p:Prop} (h:p:=by rw [ee (by omega) (by omega)];omega):p:=h
theorem GG {p:Prop} (h:p:=by show cur.length-(i+1)<cur.length-i;omega):p:=h
theorem GH {p:Prop} (h:p:=by show 2+g.length-(j+1)<2+g.length-j;omega):p:=h
theorem r3 {p:Prop} (h:p:=by show xs.length-(j+1)<xs.length-j;omega):p:=h
theorem wG {p:Prop} (h:p:=by show g.length-(j+1)<g.length-j;omega):p:=h
theorem Dp {p:Prop} (h:p:=by show a.length-(j+1)<a.length-j;omega):p:=h
theorem uO {p:Prop} (h:p:=by rw [List.length_replicate];omega):p:=h
theorem pZ {p:Prop} (h:p:=by show (_+1)*24≤_;omega):p:=h
theorem ki {p:Prop} (h:p:=by show (_+1)*8≤_;omega):p:=h
theorem hk {p:Prop} (h:p:=by intro b h;cases h):p:=h
theorem tp {p:Prop} (h:p:=by simpa using U):p:=h
theorem er {p:Prop} (h:p:=by intro k;simp):p:=h
theorem hy {p:Prop} (h:p:=by simp<;>omega):p:=h
theorem ec {p:Prop} (h:p:=by decide):p:=h
def eh (b n cap:Nat):af := .hC (.slice (some ⟨b,0,none⟩) n cap)
theorem bJ.Ay {w:World} {p:bU}:∀ vs:List Value,bJ w p vs (vs.map fun _ => .any)
 | [] => .nil
 | v::vs => .cons v .any vs _ (.any v) (bJ.Ay vs)
theorem Az {v:Value} (h:v.oneCell'=true):v.cells = #[v]:=by
 cases v<;>first|rfl|(simp [Value.oneCell'] at h;done)
theorem tq:∀ {vs:List Value},(∀ v∈vs,v.oneCell'=true)→flat vs=vs
  | [],_=>rfl
  | v::vs,h=>by
    have U:=tq (vs:=vs) fun u hu=>h u (i6 _ hu)
    unfold flat at U ⊢;rw [List.flatMap_cons,U,Az (h v i8)];rfl
section
variable {P:Program} {Γ:cy} {N:Nat} {ops:Array Oper} {Q:b6→Env→al→Prop} {env:Env} {s:al} {l:List Oper} {o:Oper} {d:Nat} {L R:a8}
def Grown (s:al) (R:a8) (e:TypeId) (n:Nat) (xs:List af) (r:af) (ak:al):Prop:=
 ∃ aW ch cs',r=eh aW n ch∧ak=aS s ((.own aW,.box e cs')::R)∧Ok s ((.own aW,.box e cs')::R)∧cs'.length=ch∧n≤ch∧cs'.take n=xs
theorem Ly (aQ:bO P Γ) {w:World} {p:bU} {S:al} (cg:dq w p S) {t bK e ty:TypeId} {it cx aG:bN} {bV:Nat} {olds:List Value} {xs:List af} {v:af} {dm:bQ} {base:Option Addr} {n cap:Nat} {q0:Value}
  (aL:Γ.get? t=some it) (bq:it.bH = .aB e) (cW:Γ.get? bK=some cx) (dr:∀ k,cx.bH ≠ .int k) (bL:Γ.get? e=some aG) (U:aG.size=1) (dO:af2 aG.zero.cells.size aG.size=true)
  (aC:bJ w p olds xs) (az:n=xs.length) (s8:(Builtin.firstCells 1 n (.slice base n cap)).run P w.drew = .ok olds.toArray w.drew) (ax:Rel w p q0 (.aB bV [v] dm)) (c6:bV=1) (dH:e7 v=true)
  (aw:cap<n+1) (an:(n+1)*aG.bytes≤140737488355328) (ed:n+1≤9223372036854775807) :
  ∃ aW ch cs' w',(Builtin.append_ #[t,bK] ty #[.slice base n cap,q0]).run P w = .ok (.slice (some ⟨aW,0,none⟩) (n+1) ch) w'∧S aW=none∧dc w p w' p∧Kept S (S.set aW (.box e cs')) w p w' p∧dq w' p (S.set aW (.box e cs')) ∧
   cs'.length=ch∧n+1≤ch∧cs'.take (n+1)=xs++[v]:=by
 obtain ⟨info,d,g1,g2,g3,-⟩:=aQ.parts aL;obtain ⟨mM,c2,dT,dh,dJ,-⟩:=aQ.parts cW;obtain ⟨jO,kv,cF,dj,fe,eI,jP,jl⟩:=aQ.parts bL;have ay:d = .slice e:=by rw [bq] at g3;cases d<;>simp [ev] at g3;rw [g3]
 subst ay;have cq:∀ k,c2 ≠ .int k:=fun k e'=>by subst e';exact dr k dJ.symm
 obtain ⟨us,ie,pO,jQ,ke,s',ta,tb⟩:=qG ax (.inr c6);have mQ:=ie.length;cases ie with
 | cons u _ vZ _ hu wH=>
 cases wH;subst c6;have tr:flat [u]=[u]:=tq (by intro x ab;rw [t6] at ab;subst ab;exact FT hu dH);have fz:=growslice_fits (need:=n+1) (old:=cap) (bytes:=aG.bytes) aw an;have cO:=zZ (ty:=ty) w g2 dh cq cF jl (base:=base) (sLen:=n) (sCap:=cap) (m:=1) (olds:=olds) (news:=[u]) (jQ P)
  (by rw [eI,U];exact s8) (by rw [eI,U,← tr];exact ke P w.drew (fun _ _ _=>rfl)) aw ag (by rw [jP];exact fz)
 have nx:n+1≤grownCap w (n+1) cap e:=by simp [grownCap,Question.cut]
 have gz:olds.length=n:=by rw [aC.length,az]
 have oT:=ae0 dO;generalize s9:(Builtin.zeroCells aG.zero.cells (grownCap w (n+1) cap e-(n+1))).toList=aZ at cO;have mm:aZ.length=grownCap w (n+1) cap e-(n+1):=by
  rw [← s9,ae9];simp [Builtin.zeroCells,oT,U]
 generalize grownCap w (n+1) cap e=G at cO nx mm;have wI:=x8 cg
 obtain ⟨ar,hle,aA,kZ⟩:=rQ wI (.cells (olds++[u]++aZ).toArray e (0,0)) (.box e (xs++[v]++aZ.map fun _ => .any)) (fun w' iK au fs=>⟨_,iK,by
  refine bJ.append (bJ.append (fs _ _ (show bJ w.drew p olds xs from aC.mono kU)) (fs _ _ (.cons _ _ _ _ (hu.mono kU) .nil))) (bJ.Ay aZ),fun o aD=>absurd (cg.lt _ _ aD) (by show ¬ w.heap.size<w.heap.size;omega)⟩)
 rw [show w.drew.heap.size=w.heap.size from rfl] at ar aA kZ;refine ⟨w.heap.size,G,xs++[v]++aZ.map (fun _=>af.any),_,cO,ar,kU.trans hle,(vQ (w:=w) (p:=p)).trans (kU (w:=w) (p:=p)).size aA,kZ,?_,nx,?_⟩
 ·simp only [f8,f0,ag',mm];omega
 ·rw [ah6 cP,ag8 cP]
theorem uP {t bK:TypeId} {x y:Operand} {a:Act} {val:Value} {w w':World} (ah:o.op = .call { callee := .builtin .append,args := #[x,y],argTypes := #[t,bK] }) (h:(Builtin.append_ #[t,bK] o.type #[a.eval x,a.eval y]).run P w = .ok val w') :
  (execOp a.eval o).run P w = .ok (.value val) w':=by
 unfold execOp;rw [ah];simp only [resolve,invoke,builtin,ac',ae5,i5,ar7,ae2,ah2,h]
theorem a6.Dq (aQ:bO P Γ) (I:Ok s L) {t bK e:TypeId} {x y:Operand} {it cx aG:bN} {dU bV:Nat} {v:af} {dm:bQ}
  (ah:o.op = .call { callee := .builtin .append,args := #[x,y],argTypes := #[t,bK] }) (aL:Γ.get? t=some it) (bq:it.bH = .aB e) (cW:Γ.get? bK=some cx) (dr:∀ k,cx.bH ≠ .int k)
  (bL:Γ.get? e=some aG) (U:aG.size=1) (dO:af2 aG.zero.cells.size aG.size=true) (ab:aK env x=some (.aB dU [] .nil)) (ax:aK env y=some (.aB bV [v] dm)) (c6:bV=1) (dH:e7 v=true) (an:1*aG.bytes≤140737488355328)
  {X:af→al→Prop}:a6 P N o env (aS s L) (fun r ak=>Grown s L e 1 [v] r ak) X:=by
 refine a6.ku ja fun ro B a w p aJ=>?_
 have gd:=aJ.aK ab;have fj:=aJ.aK ax;have eP:=fun val w'=>uP (P:=P) (a:=a) (val:=val) (w:=w) (w':=w') ah
 generalize ew:a.eval x=dQ at gd eP;generalize ff:a.eval y=fY at fj eP;have ts:dQ = .slice none 0 0:=by
  cases gd with
  | hV=>rfl
  | ir a _ _ h=>rcases h with h|h<;>cases h
  | aB g off n cap _ vs _ _ az=>exact absurd C az
 subst ts
 obtain ⟨aW,ch,cs',w',fr,gx,hv,iY,mn,mo,mY,mZ⟩:=Ly (ty:=o.type) aQ aJ.wf (base:=none) (n:=0) (cap:=0) (olds:=[]) (xs:=[]) aL bq cW dr bL U dO .nil rfl (by
  have:=run_firstCells_none (P:=P) w.drew 1 0 0 0
  simpa using this) fj c6 dH ag (by simpa using an) ag
 exact ⟨_,w',_,p,_,eP _ _ fr,hv,iY,mn,⟨aW,ch,cs',rfl,rfl,⟨gx,I⟩,mo,mY,by simpa using mZ⟩,.hC _⟩
theorem a6.Dr (aQ:bO P Γ) (I:Ok s L) {t bK e:TypeId} {x y:Operand} {it cx aG:bN} {b n cap bV:Nat} {cs:List af} {v:af} {dm:bQ}
    (ah:o.op = .call { callee := .builtin .append,args := #[x,y],argTypes := #[t,bK] }) (aL:Γ.get? t=some it) (bq:it.bH = .aB e) (cW:Γ.get? bK=some cx) (dr:∀ k,cx.bH ≠ .int k)
    (bL:Γ.get? e=some aG) (U:aG.size=1) (dO:af2 aG.zero.cells.size aG.size=true) (ab:aK env x=some (eh b n cap)) (ar:bo L (.own b) (.box e cs) R) (cj:cs.length=cap) (az:n≤cap) (iv:(cs.take n).all e7=true)
    (ax:aK env y=some (.aB bV [v] dm)) (c6:bV=1) (dH:e7 v=true) (an:(n+1)*aG.bytes≤140737488355328) (ed:n+1≤9223372036854775807)
    {X:af→al→Prop}:a6 P N o env (aS s L) (fun r ak=>Grown s R e (n+1) (cs.take n++[v]) r ak) X:=by
  obtain ⟨cd,b1,ek⟩:=ar.perm I;refine a6.ku ja fun ro B a w p aJ=>?_
  have gd:=aJ.aK ab;have fj:=aJ.aK ax;have eP:=fun val w'=>uP (P:=P) (a:=a) (val:=val) (w:=w) (w':=w') ah
  generalize ew:a.eval x=dQ at gd eP;generalize ff:a.eval y=fY at fj eP;cases gd;obtain ⟨vs,cQ,cV,e3⟩:=aJ.wf.obj _ _ (ar.get I);have fs:vs.toList.length=cap:=by rw [cV.length,cj]
  have hl:=cV.take n;have wJ:=qE hl iv;have pQ:∀ w':World,(∀ j,w'.cell? ⟨b,j,none⟩=w.cell? ⟨b,j,none⟩)→(Builtin.firstCells 1 n (.slice (some ⟨b,0,none⟩) n cap)).run P w' = .ok (vs.toList.take n).toArray w':=by
    intro w' iK;refine run_firstCells_some (P:=P) w' 1 n ⟨b,0,none⟩ n cap (vs.toList.take n) (by rw [ae8,fs];omega) (fun j u hu=>?_);rw [lo,af8,iK,jE cQ];rw [ai2] at hu;split at hu
    · simpa using hu
    · cases hu
  by_cases aw:cap<n+1
  · obtain ⟨aW,ch,cs',w',fr,gx,hv,iY,mn,mo,mY,mZ⟩:=Ly (ty:=o.type) aQ aJ.wf (base:=some ⟨b,0,none⟩) (n:=n) (cap:=cap) (olds:=vs.toList.take n) (xs:=cs.take n) aL bq cW dr bL U dO hl x1
      (pQ w.drew fun _=>rfl) fj c6 dH aw an ed
    have fX:al.Sub ((aS s R).set aW (.box e cs')) ((aS s L).set aW (.box e cs')):=by
      refine Di (k := .own aW) ?_;rw [cd];exact yn (k := .own b) (al.oU _) b1
    have av:aS s R aW=none:=by
      have h:=gx;rw [cd] at h;exact (al.uA h).2
    exact ⟨_,w',_,p,_,eP _ _ fr,hv,iY.sub fX,mn.sub fX,⟨aW,ch,cs',rfl,rfl,⟨av,ek⟩,mo,mY,mZ⟩,.hC _⟩
  · obtain ⟨info,d,g1,g2,g3,-⟩:=aQ.parts aL
    obtain ⟨mM,c2,dT,dh,dJ,-⟩:=aQ.parts cW;obtain ⟨jO,kv,cF,dj,fe,eI,jP,jl⟩:=aQ.parts bL;have ay:d = .slice e:=by rw [bq] at g3;cases d<;>simp [ev] at g3;rw [g3]
    subst ay;have cq:∀ k,c2 ≠ .int k:=fun k e'=>by subst e';exact dr k dJ.symm
    subst c6;obtain ⟨us,ie,pO,jQ,ke,s',ta,tb⟩:=qG (sz':=1) fj (.inr rfl);cases ie with
    | cons u _ vZ _ hu wH=>
    cases wH;have mx:∀ x∈[u],x.oneCell'=true:=by intro x ab;rw [t6] at ab;subst ab;exact FT hu dH
    have tr:flat [u]=[u]:=tq mx;have eO:vs.size=cap:=by rw [← ae9];exact fs
    have cO:=CQ (ty:=o.type) (P:=P) w g2 dh cq cF b n cap vs cQ (xv:=fY) (m:=1) (news:=[u]) (jQ P) (by rw [eI,U,← tr];exact ke P w (fun _ _ _=>rfl)) mx ag (by rw [eI,U,eO];simp;omega);rw [eI,U,ai8] at cO;have hg:bJ w p (vs.toList.take n++[u]++vs.toList.drop (n+[u].length)) (cs.take n++[v]++cs.drop (n+1)):=bJ.append (bJ.append hl (.cons _ _ _ _ hu .nil)) (cV.drop _);have cc:(aS s L) b=some (.box e cs):=ar.get I
    obtain ⟨dn,ig,iz⟩:=vY aJ.wf cc (vs':=(vs.toList.take n++[u]++vs.toList.drop (n+[u].length)).toArray) (cs':=cs.take n++[v]++cs.drop (n+1)) (fun AA bu=>by
      rw [cQ] at bu;cases bu
      simp only [an3,f8,ae8,ai5,ag',fs]
      rw [eO];omega) (by simpa using hg) _ C
    obtain ⟨f1,f2⟩:=ar.put (.box e (cs.take n++[v]++cs.drop (n+1))) I;refine ⟨_,_,_,p,_,eP _ _ cO,dn,ig,iz,⟨b,cap,cs.take n++[v]++cs.drop (n+1),rfl,f1,f2,?_,by omega,?_⟩,.hC _⟩
    · simp only [f8,ae8,ai5,ag',cj];omega
    · have:(cs.take n++[v]).length=n+1:=by simp [cj];omega
      rw [ah6 ag,ag8 ag]
theorem aa.Dq (aQ:bO P Γ) (I:Ok s L) {t bK e:TypeId} {x y:Operand} {it cx aG:bN} {dU bV:Nat} {v:af} {dm:bQ} (av:guardOf ops env o=some true) (ay:o.dst=some d) (aT:aa' d N=true)
  (ah:o.op = .call { callee := .builtin .append,args := #[x,y],argTypes := #[t,bK] }) (aL:Γ.get? t=some it) (bq:it.bH = .aB e) (cW:Γ.get? bK=some cx) (dr:∀ k,cx.bH ≠ .int k)
  (bL:Γ.get? e=some aG) (U:aG.size=1) (dO:af2 aG.zero.cells.size aG.size=true) (ab:aK env x=some (.aB dU [] .nil)) (ax:aK env y=some (.aB bV [v] dm)) (c6:bV=1) (dH:e7 v=true) (an:1*aG.bytes≤140737488355328)
  (h:∀ aW ch cs',cs'.length=ch→1≤ch→cs'.take 1=[v]→Ok s ((.own aW,.box e cs')::L)→aa P N ops l Q ((d,eh aW 1 ch)::env) (aS s ((.own aW,.box e cs')::L))):aa P N ops (o::l) Q env (aS s L):=by
 refine aa.op av ay aT (a6.Dq aQ I ah aL bq cW dr bL U dO ab ax c6 dH an (X:=fun _ _=>False)) ?_ (fun _ _ h=>h.elim);rintro r ak ⟨aW,ch,cs',rfl,rfl,ad,aj,a',bz⟩;exact h aW ch cs' aj a' bz ad
theorem aa.Dr (aQ:bO P Γ) (I:Ok s L) {t bK e:TypeId} {x y:Operand} {it cx aG:bN} {b n cap bV:Nat} {cs:List af} {v:af} {dm:bQ} (av:guardOf ops env o=some true) (ay:o.dst=some d) (aT:aa' d N=true)
  (ah:o.op = .call { callee := .builtin .append,args := #[x,y],argTypes := #[t,bK] }) (aL:Γ.get? t=some it) (bq:it.bH = .aB e) (cW:Γ.get? bK=some cx) (dr:∀ k,cx.bH ≠ .int k)
  (bL:Γ.get? e=some aG) (U:aG.size=1) (dO:af2 aG.zero.cells.size aG.size=true) (ab:aK env x=some (eh b n cap)) (ar:bo L (.own b) (.box e cs) R) (cj:cs.length=cap) (az:n≤cap) (iv:(cs.take n).all e7=true)
  (ax:aK env y=some (.aB bV [v] dm)) (c6:bV=1) (dH:e7 v=true) (an:(n+1)*aG.bytes≤140737488355328) (ed:n+1≤9223372036854775807)
  (h:∀ aW ch cs',cs'.length=ch→n+1≤ch→cs'.take (n+1)=cs.take n++[v]→Ok s ((.own aW,.box e cs')::R)→aa P N ops l Q ((d,eh aW (n+1) ch)::env) (aS s ((.own aW,.box e cs')::R))):aa P N ops (o::l) Q env (aS s L):=by
 refine aa.op av ay aT (a6.Dr aQ I ah aL bq cW dr bL U dO ab ar cj az iv ax c6 dH an ed (X:=fun _ _=>False)) ?_ (fun _ _ h=>h.elim);rintro r ak ⟨aW,ch,cs',rfl,rfl,ad,aj,a',bz⟩;exact h aW ch cs' aj a' bz ad
theorem dx.tt {B:fO} {ro:Option Nat} {a:Act} {w:World} {p:bU} (h:dx N B ro env s a w p) {t b n cap:Nat} {T:TypeId} {cs:List af} (aL:env.get? t=some (eh b n cap)) (ar:s b=some (.box T cs)) (cj:cs.length=cap) (az:n≤cap) (hm:n≤9223372036854775807)
  (iv:(cs.take n).all e7=true):∃ bj,dx N B ro ((t,.aB 1 (cs.take n) .bc)::env) (s.del b) a w bj∧dc w p w bj∧Kept s (s.del b) w p w bj:=by
 have Gg:dx N B ro ((a.tmps.size,.any)::[]) s a w p:=h.restrict _ (fun t v au=>by
  simp only [Env.get?] at au
  split at au
  ·cases au;exact .any _
  ·cases au)
 obtain ⟨vs,U,ad,aj⟩:=h.wf.obj _ _ ar;have aw:b<w.heap.size:=(t8.1 U).1;have hle:dc w p w (p.ea b True):=⟨rfl,rfl,rfl,g9 _,fun _ _ h => .inl h,fun _ _ _=>rfl,fun _ _ h=>h⟩
 have aA:Kept s (s.del b) w p w (p.ea b True):=⟨fun _ _ _=>rfl,fun aW an az=>by
  by_cases e:aW=b
  ·subst e;exact al.nw _ _
  ·rw [al.mO _ e];exact az,fun aW o an az aD=>by
   rcases aD with aD|⟨rfl,_⟩
   ·exact aD
   ·rw [ar] at az;cases az⟩
 have cg:dq w (p.ea b True) (s.del b):=by
  refine ⟨fun aW o an=>?_,fun aW o aD=>by rcases aD with aD|⟨rfl,_⟩;exact h.wf.lt _ _ aD;exact aw⟩;by_cases e:aW=b
  ·subst e;rw [al.nw] at an;cases an
  ·rw [al.mO _ e] at an
   have ah:=h.wf.obj aW o an;have fa:∀ o,p.ea b True aW o↔p aW o:=fun o=>⟨fun aD=>by rcases aD with aD|⟨e',_⟩;exact aD;exact absurd e' e,.inl⟩
   cases o with
   | box t c=>obtain ⟨us,g1,g2,g3⟩:=ah;exact ⟨us,g1,g2.mono hle,fun o aD=>g3 o ((fa o).1 aD)⟩
   | row t sz n=>obtain ⟨cur,g1,g2,g3,g4⟩:=ah;exact ⟨cur,g1,g2,g3,fun o=>(fa o).trans (g4 o)⟩
   | map es=>obtain ⟨cN,c,g1,g2,g3⟩:=ah;exact ⟨cN,c,g1,⟨g2.1.mono hle,g2.2.mono hle⟩,g3⟩
   | ll es it l c=>exact ah.qz hle C C
   | tick m=>exact ah
   | loop r env=>exact ⟨ah.1,fun t v h=>(ah.2 t v h).mono hle⟩
 have aJ:=h.step hle aA cg;refine ⟨_,⟨aJ.size,fun bK v au=>?_,aJ.wf,aJ.defs,aJ.round,aJ.base⟩,hle,aA⟩;simp only [Env.get?] at au;split at au
 ·rename_i he
  have:=ae0 he;subst this;cases au;have aC:=h.env t _ aL;generalize a.tmps.getD t undef=dQ at aC;cases aC;have hl:=ad.take n;have wJ:=qE hl iv;have kt:=tq wJ;refine .aB b 0 n cap 1 (vs.toList.take n) (cs.take n) .bc ba x1 ?_ (hl.mono hle) (fun v au=>by rw [Az (wJ v au)];rfl) hm az (fun h=>by cases h) (fun b h=>by cases h);rw [kt];intro i v aN;refine ⟨.inr ⟨rfl,trivial⟩,?_⟩;rw [af8,jE U];rw [ai2] at aN;split at aN
  ·simpa using aN
  ·cases aN
 ·exact aJ.env bK v au
theorem ae.tt {c:Code} (I:Ok s L) (t b:Nat) {n cap:Nat} {T:TypeId} {cs:List af} (aL:env.get? t=some (eh b n cap)) (ar:bo L (.own b) (.box T cs) R) (cj:cs.length=cap) (az:n≤cap) (hm:n≤9223372036854775807) (iv:(cs.take n).all e7=true)
  (h:Ok s R→ae P N c Q ((t,.aB 1 (cs.take n) .bc)::env) (aS s R)):ae P N c Q env (aS s L):=by
 obtain ⟨U,ad⟩:=ar.del I;intro tu B a w p eZ aJ;obtain ⟨bj,aj,a',bz⟩:=aJ.tt aL (ar.get I) cj az hm iv;rw [U] at aj bz;exact mh (h ad tu B a w bj eZ aj) fun _ _ _ q=>q.after a' bz
end
section
open Go.Sort
variable {P:Program} {α:Type}
theorem AB {w:World} {p:bU} (k:Nat):dc w p (Sort.ahead w k) p:=⟨rfl,rfl,rfl,g9 _,fun _ _ h=>h,fun _ _ _=>rfl,fun _ _ h=>h⟩
theorem Ur {w:World} {p:bU} {s:al} (k:Nat) (h:dq w p s):dq (Sort.ahead w k) p s:=h.grow (AB k) (fun _ _=>rfl) (fun _ _ _ h=>h) h.lt
theorem Us {w:World} {p:bU} {s:al} (k:Nat):Kept s s w p (Sort.ahead w k) p:=⟨fun _ _ _=>rfl,fun _ _ h=>h,fun _ _ _ _ h=>h⟩
theorem GI (w:World) (os:Array Obj) (b:Nat) (h:b<w.heap.size):(grow w os).heap[b]? = w.heap[b]?:=by
 show (w.heap++os)[b]? = _;rw [Array.getElem?_append_left h]
theorem Lz {w:World} {p:bU} (aw:∀ b o,p b o→b<w.heap.size) (os:Array Obj):dc w p (grow w os) p:=
 dc.of_heap C C C (by show w.heap.size≤(w.heap++os).size;simp) (fun _ _ h=>h) aw (fun b an=>GI w os b an)
theorem Ut {w:World} {p:bU} {s:al} (h:dq w p s) (os:Array Obj):dq (grow w os) p s:=
 h.grow (Lz h.lt os) (fun b an=>GI w os b an) (fun _ _ _ h=>h) (fun b o aD=>ak8 (h.lt b o aD) (by show w.heap.size≤(w.heap++os).size;simp))
theorem Uu {w:World} {p:bU} {s:al} (os:Array Obj):Kept s s w p (grow w os) p:=⟨fun b an _=>GI w os b an,fun _ _ h=>h,fun _ _ _ _ h=>h⟩
theorem LA {w:World} {p:bU} {enc:α→Value} {encA:α→af} (ad:∀ w p a,Rel w p (enc a) (encA a)):∀ l:List α,bJ w p (l.map enc) (l.map encA)
 | [] => .nil
 | a::l => .cons _ _ _ _ (ad w p a) (LA ad l)
theorem LB {w:World} {p:bU} {enc:α→Value} {encA:α→af} (U:∀ w p v a,Rel w p v (encA a)→v=enc a):∀ {l:List α} {vs:List Value},bJ w p vs (l.map encA)→vs=l.map enc
  | [],vs,h=>by cases h;rfl
  | a::l,vs,h=>by
    cases h with
    | cons v _ vs' _ au aL=>rw [U _ _ _ _ au,LB U aL];rfl
variable [Inhabited α]
theorem bF.sort {f:FuncId} {enc:α→Value} {encA:α→af} {le:α→α→Bool} {e:TypeId} (aF:te P f) (U:∀ w p v a,Rel w p v (encA a)→v=enc a) (ad:∀ w p a,Rel w p (enc a) (encA a))
  (Uv:∀ (r4 off cap:Nat) (gp:List α) (w:World),Holds enc w r4 off gp.toArray→r4<w.heap.size→gp.length<4611686018427387904→Calls P f #[.slice (some ⟨r4,off,none⟩) gp.length cap] w fun e w'=>e = .returned (.tuple #[])∧∃ n os,w'=grow (putRow enc (Sort.ahead w n) r4 off (gp.mergeSort le).toArray) os)
  (b cap:Nat) (gp:List α) (rest:List af) (aE:gp.length<4611686018427387904) :
  bF P f [eh b gp.length cap] [(.own b,.box e (gp.map encA++rest))] (fun o K=>o = .ret (.cu [])∧K=[(.own b,.box e ((gp.mergeSort le).map encA++rest))]):=by
 intro s I;refine ⟨aF,fun w p vs cg eT=>?_⟩;cases eT with
 | cons v _ vs' _ au aL=>
 cases aL;cases au;obtain ⟨cur,cQ,cV,e3⟩:=cg.obj b _ (al.gk _ _ _);have aw:b<w.heap.size:=(t8.1 cQ).1;have cj:cur.toList=gp.map enc++cur.toList.drop gp.length:=by
  have aj:=cV.take gp.length;rw [ah6 ba,ag8 (l:=gp.map encA) ba] at aj;rw [← LB U aj,ai7]
 have hE:gp.length≤cur.size:=by
  have:=cV.length;rw [ae9] at this;rw [this];simp
 have GJ:Holds enc w b 0 gp.toArray:=by
  intro j aH;have GK:j<gp.length:=by simpa using aH
  refine ⟨?_,by simp [World.frozen?,cQ]⟩;rw [af8,jE cQ,← av0,cj,af' (by simpa using GK),af3,f7 GK];simp [GK]
 refine Calls.mono (Uv b 0 cap gp w GJ aw aE) ?_;rintro Ds w' ⟨rfl,k,os,rfl⟩;refine ⟨by simp,.ret (.cu []),aS s [(.own b,.box e ((gp.mergeSort le).map encA++rest))],p,.cu #[] [] .nil,⟨_,rfl,I,rfl,rfl⟩,?_⟩;have jU:(gp.mergeSort le).length=gp.length:=List.length_mergeSort gp;have Af:putRow enc (Sort.ahead w k) b 0 (gp.mergeSort le).toArray=(Sort.ahead w k).setRow b ((gp.mergeSort le).map enc++cur.toList.drop gp.length).toArray:=by
  unfold putRow mapBlock World.setRow;congr 1;refine aw1 fun i=>?_
  rw [ao7,ao7];by_cases e:b=i
  ·subst e
   rw [g6 C,g6 C];show (w.heap[b]?).map _=(w.heap[b]?).map _;rw [cQ];simp only [ao2,onCells];congr 2;refine aw1 fun j=>?_
   simp only [putCells,Array.getElem?_mapIdx,g8,true_and,af8,an3,jU,az8];rw [← av0,← av0];by_cases aH:j<gp.length
   ·rw [af' (by rw [f0,jU];exact aH),af3,f7 (l:=gp.mergeSort le) (by rw [jU];exact aH)]
    have:j<cur.toList.length:=by rw [ae9];omega
    rw [f7 this];simp [aH,jU]
   ·rw [af0 (by rw [f0,jU];omega),f0,jU,ao6]
    rw [show gp.length+(j-gp.length)=j by omega];cases cur.toList[j]? with
    | none=>rfl
    | some y=>simp [aH]
  ·rw [d9 e,d9 e]
 rw [Af];have hg:bJ w p (((gp.mergeSort le).map enc++cur.toList.drop gp.length).toArray).toList ((gp.mergeSort le).map encA++rest):=by
  refine bJ.append (LA ad _) ?_;have:=cV.drop gp.length;rwa [List.drop_append_of_le_length ba,List.drop_of_length_le (l:=gp.map encA) ba,d8] at this
 have dN:=Ur k cg;have cc:(aS s [(.own b,.box e (gp.map encA++rest))]) b=some (.box e (gp.map encA++rest)):=al.gk _ _ _
 obtain ⟨dn,ig,iz⟩:=vY dN cc (vs':=((gp.mergeSort le).map enc++cur.toList.drop gp.length).toArray) (cs':=(gp.mergeSort le).map encA++rest) (fun AA bu=>by
  have LC:w.heap[b]? = some (.cells AA e (0,0)):=bu
  rw [cQ] at LC;cases LC
  simp only [an3,f8,f0,jU,ai5,ae9]
  omega) (hg.mono (AB k)) _ C
 rw [show (aS s [(.own b,.box e (gp.map encA++rest))]).set b (.box e ((gp.mergeSort le).map encA++rest))=aS s [(.own b,.box e ((gp.mergeSort le).map encA++rest))] from al.set_set _ _ _ _] at ig iz;refine ⟨((AB k).trans dn).trans (Lz iz.lt os),((Us k).trans (AB (p:=p) k).size ig).trans ((AB k).trans dn).size (Uu os),Ut iz os⟩
end
section
variable {P:Program} {Γ:cy} {N:Nat} {ops:Array Oper} {Q:b6→Env→al→Prop} {env:Env} {s:al} {l:List Oper} {o:Oper} {d:Nat} {L R dt:a8}
end
section
variable {P:Program} {Γ:cy} {N:Nat} {env:Env} {s:al}
variable {ops:Array Oper} {l:List Oper} {Q:b6→Env→al→Prop} {o:Oper} {d m:Nat}
end
theorem bd.dy {P:Program} {Γ:cy} {N:Nat} {ops:Array Oper} {Q:b6→Env→al→Prop} {D:Nat→Bool} {env:Env} {s:al} (t:Nat) {b:Bool} (au:env.get? t=some (.bool b)) (he:b=true)
  (h:bd P Γ N ops Q D ((t,.bool true)::env) s):bd P Γ N ops Q D env s:=by
 subst he;refine bd.congr _ (fun x=>?_) h;show (if af2 t x then _ else _)=_;split
 ·rename_i ab
  rw [← au,ae0 ab]
 ·rfl
theorem bd.da {P:Program} {Γ:cy} {N:Nat} {ops:Array Oper} {Q:b6→Env→al→Prop} {D:Nat→Bool} {env:Env} {s:al} (t:Nat) {b:Bool} (au:env.get? t=some (.bool b)) (he:b=false)
  (h:bd P Γ N ops Q D ((t,.bool false)::env) s):bd P Γ N ops Q D env s:=by
 subst he;refine bd.congr _ (fun x=>?_) h;show (if af2 t x then _ else _)=_;split
 ·rename_i ab
  rw [← au,ae0 ab]
 ·rfl
section
variable {P:Program} {Γ:cy} {N:Nat} {Q:b6→Env→al→Prop} {env:Env} {s:al} {l:List Oper} {m:Nat}
theorem bd.Gp (aQ:bO P Γ) {i:Nat} {o:Oper} {d:Nat} {t bK e:TypeId} {x y:Operand} {it cx aG:bN} {dU bV n:Nat} {xs ys:List af} {own dm:bQ} (aC:eK l.toArray m (idxs 0 l)=[i]) (ah:l.toArray[i]? = some o) (ay:o.dst=some d) (aT:aa' d N=true)
  (av:c4 l env o) (bY:o.op = .call { callee := .builtin .append,args := #[x,y],argTypes := #[t,bK] }) (aL:Γ.get? t=some it) (bq:it.bH = .aB e) (cW:Γ.get? bK=some cx) (dr:∀ k,cx.bH ≠ .int k)
  (bL:Γ.get? e=some aG) (ab:aK (b2 l env o) x=some (.aB dU xs own)) (ax:aK (b2 l env o) y=some (.aB bV ys dm)) (hX:dU=aG.size) (c6:ys=[]∨bV=aG.size)
  (dO:af2 aG.zero.cells.size aG.size=true) (dH:∀ y∈ys,kd aG.size y=true) (an:(xs.length+ys.length)*aG.bytes≤140737488355328) (ed:xs.length+ys.length≤9223372036854775807) (az:n=xs.length)
  {p0:al} (ar:p0=rowOf s e aG.size n own) (I:qW s n own)
  (h:∀ cS,qW s (xs.length+ys.length) cS→bd P Γ N l.toArray Q (bX (m|||2^i)) ((d,.aB aG.size (xs++ys) cS)::env) (rowOf s e aG.size (xs.length+ys.length) cS)):bd P Γ N l.toArray Q (bX m) env p0:=by
 subst ar;subst az;refine bd.one aC ah ay aT av (a6.Gp aQ bY aL bq cW dr bL ab ax hX c6 dO dH an ed C I (X:=fun _ _=>False)) ?_ (fun _ _ h=>h.elim);rintro r ak ⟨cS,U,-,-,rfl,rfl⟩;exact h cS U
end
theorem hh.args {P:Program} {f:FuncId} {xs ys:List af} {s:al} {R:ey→al→Prop} (aE:cR xs ys) (h:hh P f ys s R):hh P f xs s R:=
 ⟨h.1,fun w p vs cg aC=>h.2 w p vs cg (aE.rel aC)⟩
theorem bF.args {P:Program} {f:FuncId} {xs ys:List af} {K:a8} {aem:ey→a8→Prop} (h:cR xs ys) (k:bF P f ys K aem):bF P f xs K aem:=fun s I=>hh.args h (k s I)
theorem aV.args {P:Program} {f:FuncId} {xs ys:List af} {v:af} (h:cR xs ys) (k:aV P f ys v):aV P f xs v:=fun s=>hh.args h (k s)
theorem o6 {Γ:cy} {env:Env} {s:al} {a b:Nat} {t T:TypeId} {i:bN} {cs:List af} {v:af} (he:env.get? a=some (.ptr b 0)) (aN:Γ.get? t=some i) (ar:s b=some (.box T cs)) (aE:hK i cs 0=some v) :
  n7 Γ env s [.cell a t]=some v:=by simp [n7,wi,Ac,he,aN,ar,aE]
theorem wK {Γ:cy} {env:Env} {s:al} {a b c:Nat} {t T:TypeId} {i:bN} {cs:List af} {v u:af} (he:env.get? a=some (.ptr b 0)) (aN:Γ.get? t=some i) (ar:s b=some (.box T cs)) (aE:hK i cs 0=some v) (aF:env.get? c=some u) :
  n7 Γ env s [.cell a t,.tmp c]=some (.cu [v,u]):=by simp [n7,wi,Ac,he,aN,ar,aE,aF]
theorem aa.ih {P:Program} {N:Nat} {ops:Array Oper} {Q:b6→Env→al→Prop} {env:Env} {s:al} {l:List Oper} {L:a8} (I:Ok s L) (e:TypeId) (sz n:Nat) (h:Ok s ((.nil,.row e sz n)::L)→aa P N ops l Q env (aS s ((.nil,.row e sz n)::L))):aa P N ops l Q env (aS s L):=h ⟨trivial,I⟩
theorem ae.ih {P:Program} {N:Nat} {Q:b6→Env→al→Prop} {env:Env} {s:al} {c:Code} {L:a8} (I:Ok s L) (e:TypeId) (sz n:Nat) (h:Ok s ((.nil,.row e sz n)::L)→ae P N c Q env (aS s ((.nil,.row e sz n)::L))):ae P N c Q env (aS s L):=h ⟨trivial,I⟩
def LD (P:Program) {α:Type} (bW:α→af) (l:Nat) (Go:List α→a8→Prop) (fB:a8→Prop) (fL:af→a8→Prop):Prop:=
 ∀ x rem K,Go (x::rem) K→di P (lU l) [bW x] K (fun o aP=>(o = .ret (.bool true)∧Go rem aP)∨(o = .ret (.bool false)∧fB aP)∨∃ v,o = .panic v∧fL v aP)
def yu (P:Program) (f:FuncId) (first cap:List af) (m0:a8) {α:Type} (bW:α→af) (xs:List α):Prop:=
 ∀ (l:Nat) (Go:List α→a8→Prop) (fB:a8→Prop) (fL:af→a8→Prop),LD P bW l Go fB fL→∀ K,Go xs K →
  bF P f (first++([lU l]++cap)) (m0++K) (fun o aP=>(o = .ret (.cu [])∧(Go [] aP∨fB aP))∨∃ v,o = .panic v∧fL v aP)
theorem aI.ei:∀ L:a8,aI L L []
 | [] => .nil
 | (_,_)::L => .cons .here (aI.ei L)
theorem aI.there {L K R:a8} {e:bQ×dC} (h:aI L K R):aI (e::L) K (e::R):=by
 induction h with
 | nil=>exact .nil
 | cons h t aX=>exact .cons (.there h) aX
theorem aI.app {L K R aP dt:a8} (h:aI L K R) (eL:aI R aP dt):aI L (K++aP) dt:=by
 induction h with
 | nil=>exact eL
 | cons h t aX=>exact .cons h (aX eL)
theorem bo.app {L R:a8} {k:bQ} {o:dC}:∀ (K:a8),bo L k o R→bo (K++L) k o (K++R)
 | [],h=>h
 | _::K,h => .there (bo.app K h)
theorem bo.Uw {L R:a8} {k:bQ} {o:dC} (h:bo L k o R) (M:a8):bo (L++M) k o (R++M):=by
 induction h with
 | here=>exact .here
 | there h aX=>exact .there aX
theorem aI.jt {L K dt R:a8} (h:aI L K dt):aI (L++R) K (dt++R):=by
 induction h with
 | nil=>exact .nil
 | cons h t aX=>exact .cons (h.Uw _) aX
def At (s:al) (aen:a8→Prop) (ak:al):Prop:=∃ L K R,ak=aS s L∧Ok s L∧aI L K R∧aen K
theorem At.mk {s:al} {aen:a8→Prop} {L R:a8} (K:a8) (I:Ok s L) (ar:aI L K R) (aq:aen K):At s aen (aS s L):=⟨L,K,R,rfl,I,ar,aq⟩
theorem hO.less {P:Program} {fv:af} {args:List af} {s:al} {R dt:ey→al→Prop} (h:hO P fv args s R) (aC:∀ o ak,R o ak→∃ eN,al.Sub eN ak∧dt o eN):hO P fv args s dt:=by
 intro w p v vs cg au eO;refine (h w p v vs cg au eO).mono ?_;rintro e w' ⟨o,ak,bj,U,ad,aj,a',bz⟩;obtain ⟨eN,cF,dj⟩:=aC o ak ad;exact ⟨o,eN,bj,U,dj,aj,a'.sub cF,bz.sub cF⟩
section
variable {P:Program} {N:Nat} {Q:b6→Env→al→Prop} {env:Env} {s:al} {L R:a8}
theorem ae.GL {α:Type} {bW:α→af} {xs:List α} {t:Tmp} {g:Operand} {hd body:Code} {f:FuncId} {first cap:List af} {m0:a8} (I:Ok s L) (av:aK env g=some (.func f first cap)) (aT:t<N)
  (ob:yu P f first cap m0 bW xs) (ar:aI L m0 R) (aen:List α→a8→Prop) (J:Code→a8→Prop) (tv:af→a8→Prop) (bu:aen xs R)
  (sU:∀ s x rem K,aen (x::rem) K→Ok s K→ae P N hd (b6.andThen (ae P N body (C8 (At s (aen rem)) (fun j=>At s (J j)) (fun v=>At s (tv v)))) (fun _ _ _=>False)) ((t,bW x)::env) (aS s K))
  (az:∀ K,aen [] K→Ok s K→Q .normal env (aS s K))
  (aH:∀ j K,J j K→Ok s K→ae P N j Q env (aS s K))
  (ab:∀ v K,tv v K→Ok s K→Q (.panic v) env (aS s K)):ae P N (.rangeFunc g #[t] hd body) Q env (aS s L):=by
 refine ae.Ld av (by intro bK cW;simp at cW;subst cW;exact aT) fun l r aE GM=>?_
 have GN:Ok s ((.own l,.loop r env)::L):=⟨aE,I⟩;have o7:LD P bW l (fun rem K=>∃ aP,K=(.own l,.loop r env)::aP∧aen rem aP) (fun K=>∃ j aP,K=(.own l,.loop (qU r j) env)::aP∧J j aP) (fun v K=>∃ aP,K=(.own l,.loop (busy r) env)::aP∧tv v aP):=by
  rintro x rem _ ⟨K,rfl,aq⟩ ak AD;refine (GM [bW x] _ (At ak (aen rem)) (fun j=>At ak (J j)) (fun v=>At ak (tv v)) (al.gk _ _ _) C ?_).less ?_
  ·have:=al.zV (aS ak K) l (.loop r env) AD.1
   show ae P N hd _ _ (((aS ak K).set l (.loop r env)).del l);rw [this];exact sU ak x rem K aq AD.2
  ·have key:∀ {L K R:a8} {o:dC},aS ak L l=none→Ok ak L→aI L K R→al.Sub (aS ak ((.own l,o)::K)) ((aS ak L).set l o)∧Ok ak ((.own l,o)::K):=by
    intro L K R o U ad aj;exact (aI.cons bo.here aj).sub (L:=(.own l,o)::L) ⟨U,ad⟩
   rintro o eN (⟨rfl,dG,U,rfl,L,aP,R,rfl,ad,a',aj⟩|⟨rfl,j,dG,U,rfl,L,aP,R,rfl,ad,a',aj⟩|⟨v,dG,rfl,U,rfl,L,aP,R,rfl,ad,a',aj⟩)
   ·obtain ⟨cF,dj⟩:=key U ad a' (o := .loop r env)
    exact ⟨_,cF,(.own l,.loop r env)::aP,rfl,dj,.inl ⟨rfl,aP,rfl,aj⟩⟩
   ·obtain ⟨cF,dj⟩:=key U ad a' (o := .loop (qU r j) env)
    exact ⟨_,cF,(.own l,.loop (qU r j) env)::aP,rfl,dj,.inr (.inl ⟨rfl,j,aP,rfl,aj⟩)⟩
   ·obtain ⟨cF,dj⟩:=key U ad a' (o := .loop (busy r) env)
    exact ⟨_,cF,(.own l,.loop (busy r) env)::aP,rfl,dj,.inr (.inr ⟨v,rfl,aP,rfl,aj⟩)⟩
 have cX:=(ob l _ _ _ o7 _ ⟨R,rfl,bu⟩).at GN ((ar.there (e:=(.own l,.loop r env))).app (aI.ei _));refine cX.mono ?_;rintro o eN ⟨M,rfl,iO,aP,rfl,h⟩;rw [d7] at iO ⊢;rcases h with ⟨rfl,⟨my,rfl,h⟩|⟨j,my,rfl,h⟩⟩|⟨v,rfl,my,rfl,h⟩
 ·exact .inl ⟨aS s my,iO.1,rfl,az my h iO.2⟩
 ·exact .inr ⟨j,aS s my,iO.1,rfl,aH j my h iO.2⟩
 ·exact ⟨aS s my,_,iO.1,rfl,ab v my h iO.2⟩
end
section
variable {P:Program} {Γ:cy} {N:Nat} {l:List Oper} {Q:b6→Env→al→Prop} {env:Env} {s:al} {m d:Nat} {o:Oper} {L K R:a8} {aem:ey→a8→Prop}
theorem bd.b7 (i:Nat) {f:FuncId} {fR:Array Operand} {c3:Array TypeId} {xs:List af} (aC:eK l.toArray m (idxs 0 l)=[i]) (ah:l.toArray[i]? = some o) (ay:o.dst=some d) (aT:aa' d N=true)
  (av:c4 l env o) (bY:o.op = .call { callee := .value (.func f),args:=fR,argTypes:=c3 }) (aR:fP (b2 l env o) fR.toList=some xs) (h:bF P f xs K aem) (I:Ok s L) (ar:aI L K R)
  (aA:∀ x aP,aem (.ret x) aP→Ok s (aP++R)→bd P Γ N l.toArray Q (bX (m|||2^i)) ((d,x)::env) (aS s (aP++R))) (ab:∀ x aP,aem (.panic x) aP→Ok s (aP++R)→Q (.panic x) [] (aS s (aP++R))):bd P Γ N l.toArray Q (bX m) env (aS s L):=
 bm.b7 aC ah ay aT av bY aR h I ar (fun _ _ _ _ => .inl trivial) aA ab
theorem bm.Ux {J:al→Prop} (i:Nat) (aQ:bO P Γ) (cL:J s) {t:TypeId} {x:Operand} {dX:bN} {b off:Nat} {v:af} (aC:iy l.toArray m i=true) (ah:l.toArray[i]? = some o) (ay:o.dst=some d) (aT:aa' d N=true)
  (av:c4 l env o) (bY:o.op = .load t x) (aL:Γ.get? t=some dX) (ab:aK (b2 l env o) x=some (.ptr b off)) (ar:∀ s,J s→∃ T cs,s b=some (.box T cs)∧hK dX cs off=some v)
  (h:bm J P Γ N l.toArray Q (bX (m|||2^i)) ((d,v)::env) s):bm J P Γ N l.toArray Q (bX m) env s:=
 bm.rY cL aC ah ay aT av (fun s hF=>by obtain ⟨T,cs,U,ad⟩:=ar s hF;exact a6.uB aQ bY aL ab U ad) h
end
section
variable {P:Program} {N:Nat} {Q:b6→Env→al→Prop} {env:Env} {s:al} {L:a8}
def Dt {σ:Type} (s:al) (E:σ→Env) (K:σ→a8) (aen:σ→Prop) (Q:b6→Env→al→Prop):b6→Env→al→Prop
 | .normal,eX,ak=>∃ y n9 dt,aen y∧Env.Sub (E y) eX∧ak=aS s n9∧Ok s n9∧aI n9 (K y) dt
 | e,eX,ak=>Q e eX ak
theorem Dt.mk {σ:Type} {E:σ→Env} {K:σ→a8} {aen:σ→Prop} (y:σ) {dt:a8} (I:Ok s L) (aq:aen y) (eB:Env.Sub (E y) env) (cc:aI L (K y) dt):Dt s E K aen Q .normal env (aS s L):=⟨y,L,dt,aq,eB,rfl,I,cc⟩
theorem ae.Uy {σ:Type} {x y:Code} {oP:b6→Env→al→Prop} (E:σ→Env) (K:σ→a8) (aen:σ→Prop) (wC:ae P N x (Dt s E K aen oP) env (aS s L)) (wD:∀ z,aen z→Ok s (K z)→ae P N y Q (E z) (aS s (K z))) :
  ae P N x (b6.andThen (ae P N y Q) oP) env (aS s L):=by
 refine wC.mono ?_;intro e eX ak h;cases e with
 | normal=>
  obtain ⟨z,n9,dt,g1,g2,rfl,g3,g4⟩:=h;obtain ⟨cF,dj⟩:=g4.sub g3;exact ae.sub _ g2 (ae.drop _ cF (wD z g1 dj))
 | exit id=>exact h
 | ret=>exact h
 | panic v=>exact h
end
section
variable {P:Program} {N:Nat} {ops:Array Oper} {Q:b6→Env→al→Prop} {env:Env} {s:al} {l:List Oper} {o:Oper} {d:Nat}
theorem a6.rem {t yt:TypeId} {x y:Operand} {k:IntKind} {a b r:Int} (ah:o.op = .binOp .rem t x y yt) (ab:aK env x=some (.int k a)) (ax:aK env y=some (.int k b)) (an:b≠0) (aC:a.tmod b=r) :
  a6 P N o env s (fun x ak=>x = .int k r∧ak=s) (fun _ _=>False):=by
 refine a6.ns ja fun ro B c8 w p aJ=>?_
 have U:=aJ.aK ab;have ad:=aJ.aK ax;generalize ew:c8.eval x=dQ at U;generalize ff:c8.eval y=fY at ad;cases U;cases ad;refine uE (v := .int k r) ah ?_ ?_ (.int _ _)
 ·rw [ew,ff];unfold eqGuard;simp
 ·rw [ew,ff]
  simp only [binOp,ne_eq,not_true_eq_false,ah9,Op.intDiv,an,aC];rfl
theorem aa.rem {t yt:TypeId} {x y:Operand} {k:IntKind} {a b r:Int} (av:guardOf ops env o=some true) (ay:o.dst=some d) (aT:aa' d N=true) (ah:o.op = .binOp .rem t x y yt) (ab:aK env x=some (.int k a)) (ax:aK env y=some (.int k b)) (an:b≠0) (aC:a.tmod b=r)
  (h:aa P N ops l Q ((d,.int k r)::env) s):aa P N ops (o::l) Q env s:=
 aa.op av ay aT (a6.rem ah ab ax an aC) (fun x ak ⟨U,ad⟩=>by subst U;subst ad;exact h) (fun _ _ h=>h.elim)
end
theorem GO {P:Program} {cs:List Frame} (T:List Deferred):∀ (cf:List Nat) (hf:Frame) (w:World),hf.mode ≠ .run→hf.defers=marksOf cf++T →
  (∀ d∈cf,w.heap[d]? = some (.deferred (some [])))→cf.Nodup→Steps P (lone hf cs w) (lone { hf with defers:=T } cs (hr w cf)):=by
 intro cf
 induction cf with
 | nil=>
  intro hf w _ ay _ _;have:({ hf with defers:=T }:Frame)=hf:=by cases hf;simp_all [marksOf]
  rw [this];exact .refl P _
 | cons d cf aX=>
  intro hf w hm ay an az;have nn:w.heap[d]? = some (.deferred (some [])):=an d (i8 ..);have aL:(Instr.takeDeferred d).run P w = .ok [] { w with heap:=w.heap.setIfInBounds d (.deferred none) }:=by
   unfold Instr.takeDeferred;simp only [ac',getObj,setObj,Sem.run,nn,Result.andThen];rfl
  have U:step P (lone hf cs w) = .next (lone { hf with defers:=marksOf cf++T } cs { w with heap:=w.heap.setIfInBounds d (.deferred none) }):=by
   refine step_lone_go ?_;cases vK:hf.mode with
   | run=>exact absurd vK hm
   | returning=>simp [stepG,unwind,vK,ay,marksOf,au',aL]
   | panicking chain=>simp [stepG,unwind,vK,ay,marksOf,au',aL]
  have eM:=List.nodup_cons.1 az;refine .head U (aX { hf with defers:=marksOf cf++T } _ hm C ?_ eM.2);intro c2 cq;have cE:d≠c2:=fun e=>eM.1 (e ▸ cq)
  simp only [Array.getElem?_setIfInBounds,cE,ah9];exact an c2 (i6 _ cq)
def Uz (P:Program) (fn:Func) (R:Ending→World→Prop) (T:List Deferred):gZ→Act→World→Prop
 | .normal,a,w | .ret,a,w=>∃ cf,a.defers=marksOf cf++T∧cf.Nodup∧(∀ d∈cf,w.heap[d]? = some (.deferred (some [])))∧Leaves P fn a.tmps R T .returning (hr w cf)
 | .panic dA,a,w=>∃ cf,a.defers=marksOf cf++T∧cf.Nodup∧(∀ d∈cf,w.heap[d]? = some (.deferred (some [])))∧Leaves P fn a.tmps R T (.panicking dA) (hr w cf)
 | .exit _,_,_=>False
theorem LF {P:Program} {f:FuncId} {fn:Func} {Du fr rest:Code} {args:Array Value} {w:World} {R:Ending→World→Prop} {T:List Deferred}
  (a7:P.funcs[f]? = some fn) (an:fn.body=some (.seq Du (.seq fr rest)))
  (h:Du.wp P (fun e a w=>e = .normal∧fr.wp P (fun e a w=>e = .normal∧∀ b:Frame,b.roundOf=none→b.fn=f→jN P b rest (Uz P fn R T) a w) a w) { tmps:=args++al3 (fn.ntmps-args.size) undef,defers:=[] } w) :
  Calls P f args w R:=by
 intro cs
 let b:Frame:={ (default:Frame) with fn:=f,kind := .normal,roundOf:=none }
 have sT:Frame.enter P f args .normal =
   b.at { tmps:=args++al3 (fn.ntmps-args.size) undef,defers:=[] } [.code (.seq Du (.seq fr rest))]:=by
  simp [Frame.enter,Frame.at,a7,an,b]
 obtain ⟨jD,a0,l0,⟨rfl,U⟩,UA⟩:=h b [.code (.seq fr rest)] cs;obtain ⟨cd,dN,dn,⟨rfl,ad⟩,s1⟩:=U b [.code rest] cs;have UB:Steps P (lone (b.at { tmps:=args++al3 (fn.ntmps-args.size) undef,defers:=[] } [.code Du,.code (.seq fr rest)]) cs w) (lone (b.at a0 [.code (.seq fr rest)]) cs l0):=UA;have UC:Steps P (lone (b.at a0 [.code fr,.code rest]) cs l0) (lone (b.at dN [.code rest]) cs dn):=s1;have pN:Steps P (lone (Frame.enter P f args .normal) cs w) (lone (b.atR dN [.code rest]) cs dn):=by
  rw [sT,Frame.atR_of_none C];exact .head step_seq (UB.trans (.head step_seq UC))
 obtain ⟨e,c8,w',bk,fW⟩:=ad b rfl rfl [] cs;cases e with
 | normal=>
  obtain ⟨cf,ay,az,kP,bM⟩:=bk;have ar:=Steps.trans (Steps.trans pN fW) (Steps.trans (.one (stepR_end C)) (GO T cf { b.atR c8 [] with mode := .returning } w' ba ay kP az));obtain ⟨e',mi,AE,dB,hF,eZ,aE⟩:=leaves_steps T .returning _ { b.atR c8 [] with mode := .returning,defers:=T } cs rfl rfl rfl a7 rfl bM;exact ⟨e',mi,AE,dB,Comes.of_steps ar hF,eZ,aE⟩
 | ret=>
  obtain ⟨cf,ay,az,kP,bM⟩:=bk;obtain ⟨k₁,ar⟩:=fW;have ar:=Steps.trans (Steps.trans pN ar) (Steps.trans (.one (stepR_ret C)) (GO T cf { b.atR c8 (.code .ret::k₁) with mode := .returning } w' ba ay kP az));obtain ⟨e',mi,AE,dB,hF,eZ,aE⟩:=leaves_steps T .returning _ { b.atR c8 (.code .ret::k₁) with mode := .returning,defers:=T } cs rfl rfl rfl a7 rfl bM;exact ⟨e',mi,AE,dB,Comes.of_steps ar hF,eZ,aE⟩
 | panic dA=>
  obtain ⟨cf,ay,az,kP,bM⟩:=bk;obtain ⟨k₁,ar⟩:=fW;have ar:=Steps.trans (Steps.trans pN ar) (GO T cf { b.atR c8 k₁ with mode := .panicking dA } w' ba ay kP az);obtain ⟨e',mi,AE,dB,hF,eZ,aE⟩:=leaves_steps T (.panicking dA) _ { b.atR c8 k₁ with mode := .panicking dA,defers:=T } cs rfl rfl rfl a7 rfl bM;exact ⟨e',mi,AE,dB,Comes.of_steps ar hF,eZ,aE⟩
 | exit id=>exact bk.elim
section
variable {P:Program} {Γ:cy} {N:Nat} {l:List Oper} {Q:b6→Env→al→Prop} {env:Env} {s:al} {m d:Nat} {o:Oper} {L K R:a8} {aem:ey→a8→Prop}
theorem bd.jr (i:Nat) (aQ:bO P Γ) (I:Ok s L) {t dS e0:TypeId} {x y:Operand} {ok:Bool} {it gI aG:bN} {mb:Nat} {es:List (af×af)} {k z:af} {r:Option af} (aC:eK l.toArray m (idxs 0 l)=[i]) (ah:l.toArray[i]? = some o) (ay:o.dst=some d) (aT:aa' d N=true)
  (av:c4 l env o) (bY:o.op = .lookup t x y ok) (aL:Γ.get? t=some it) (bq:it.bH = .map dS e0) (jk:Γ.get? dS=some gI) (bL:Γ.get? e0=some aG) (ab:aK (b2 l env o) x=some (.map mb)) (ax:aK (b2 l env o) y=some k) (ar:bo L (.own mb) (.map es) R)
  (a7:j' gI.bH k=true) (jj:iX es k=some r) (bE:hD aG.zero=some z) (h:bd P Γ N l.toArray Q (bX (m|||2^i)) ((d,lS ok z r)::env) (aS s L)):bd P Γ N l.toArray Q (bX m) env (aS s L):=
 bd.one aC ah ay aT av (a6.jr aQ I bY aL bq jk bL ab ax ar a7 jj bE (X:=fun _ _=>False)) (fun x ak ⟨U,ad⟩=>by subst U;subst ad;exact h) (fun _ _ h=>h.elim)
theorem bd.gJ (i:Nat) {g:Operand} {fv:af} {fR:Array Operand} {c3:Array TypeId} {xs:List af} (aC:eK l.toArray m (idxs 0 l)=[i]) (ah:l.toArray[i]? = some o) (ay:o.dst=some d) (aT:aa' d N=true)
  (av:c4 l env o) (bY:o.op = .call { callee := .value g,args:=fR,argTypes:=c3 }) (au:aK (b2 l env o) g=some fv) (aR:fP (b2 l env o) fR.toList=some xs) (h:di P fv xs K aem) (I:Ok s L) (ar:aI L K R)
  (aA:∀ x aP,aem (.ret x) aP→Ok s (aP++R)→bd P Γ N l.toArray Q (bX (m|||2^i)) ((d,x)::env) (aS s (aP++R))) (ab:∀ x aP,aem (.panic x) aP→Ok s (aP++R)→Q (.panic x) [] (aS s (aP++R))):bd P Γ N l.toArray Q (bX m) env (aS s L):=
 bm.gJ aC ah ay aT av bY au aR h I ar (fun _ _ _ _ => .inl trivial) aA ab
end
section
variable {P:Program} {N:Nat} {ops:Array Oper} {Q:b6→Env→al→Prop} {env:Env} {s:al} {l:List Oper} {L R:a8}
theorem fI.tt {is:List Nat} (t b:Nat) {n cap:Nat} {T:TypeId} {cs:List af} (aL:env.get? t=some (eh b n cap)) (ar:s b=some (.box T cs)) (cj:cs.length=cap) (az:n≤cap) (hm:n≤9223372036854775807) (iv:(cs.take n).all e7=true)
  (h:fI P N ops is Q ((t,.aB 1 (cs.take n) .bc)::env) (s.del b)):fI P N ops is Q env s:=by
 intro ro B a w p aJ;obtain ⟨bj,hM,hle,aA⟩:=aJ.tt aL ar cj az hm iv;exact fI.after hle aA h hM
theorem aa.tt (I:Ok s L) (t b:Nat) {n cap:Nat} {T:TypeId} {cs:List af} (aL:env.get? t=some (eh b n cap)) (ar:bo L (.own b) (.box T cs) R) (cj:cs.length=cap) (az:n≤cap) (hm:n≤9223372036854775807) (iv:(cs.take n).all e7=true)
  (h:Ok s R→aa P N ops l Q ((t,.aB 1 (cs.take n) .bc)::env) (aS s R)):aa P N ops l Q env (aS s L):=by
 obtain ⟨U,ad⟩:=ar.del I;intro k aA;refine fI.tt t b aL (ar.get I) cj az hm iv ?_;rw [U];exact h ad k aA
end
section
variable {P:Program} {Γ:cy} {N:Nat} {ops:Array Oper} {Q:b6→Env→al→Prop} {env:Env} {s:al} {l:List Oper} {o:Oper} {d:Nat} {L R:a8}
theorem a6.fc (aQ:bO P Γ) {t e:TypeId} {x y:Operand} {it aG:bN} {b n cap:Nat} {k:IntKind} {i:Int} {j:Nat} (ah:o.op = .indexAddr t x y) (aL:Γ.get? t=some it) (bq:it.bH = .aB e) (bL:Γ.get? e=some aG)
  (ab:aK env x=some (eh b n cap)) (ax:aK env y=some (.int k i)) (eR:i=(j:Int)) (aH:j<n):a6 P N o env s (fun x ak=>x = .ptr b (j*aG.size)∧ak=s) (fun _ _=>False):=by
 refine a6.ns ja fun ro B a w p aJ=>?_
 obtain ⟨info,d,U,ad,aj,-⟩:=aQ.parts aL;obtain ⟨jO,kv,cF,dj,fe,eI,-⟩:=aQ.parts bL;have ay:d = .slice e:=by rw [bq] at aj;cases d<;>simp [ev] at aj;rw [aj]
 subst ay;have aC:=aJ.aK ab;have iZ:=aJ.aK ax;generalize ew:a.eval x=dQ at aC;generalize ff:a.eval y=fY at iZ;cases iZ;subst eR;cases aC;refine .same (val := .pointer (some ⟨b,j*aG.size,none⟩)) ?_ (.ptr b _);unfold execOp;rw [ah];simp only [ew,ff];refine gS ?_;have aw:(0:Int)≤(j:Int)∧(j:Int)<(n:Int):=by omega
 simp [Instr.indexAt,asIntOf,run_underlying ad,aw.2,sizeOf,typeInfo,cF,eI,lo];intro aY;omega
theorem GP {w:World} {p:bU} {sz:Nat}:∀ {xss:List (List af)} {us:List Value},bJ w p us xss.flatten→(∀ cs∈xss,cs.length=sz)→∃ vs,bJ w p vs (xss.map af.agg)∧flat vs=us∧∀ v∈vs,v.cells.size=sz
  | [],us,h,_=>by cases h;exact ⟨[],.nil,rfl,by simp⟩
  | cs::r,us,h,aE=>by
    rw [List.flatten_cons] at h;have cj:=aE cs i8;have U:=h.take cs.length;have ad:=h.drop cs.length;rw [List.take_left] at U;rw [List.drop_left] at ad;obtain ⟨vs,g1,g2,g3⟩:=GP ad fun x ab=>aE x (i6 _ ab)
    refine ⟨.agg (us.take cs.length).toArray::vs,.cons _ _ _ _ (.agg _ _ U) g1,?_,fun v au=>?_⟩
    · have:flat (Value.agg (us.take cs.length).toArray::vs)=us.take cs.length++flat vs:=by simp [flat,Value.cells]
      rw [this,g2,ai7]
    · rcases af1.1 au with rfl|au
      · have:=U.length
        simp only [Value.cells,an3];rw [this,cj]
      · exact g3 v au
theorem bm.fc {J:al→Prop} (i:Nat) (aQ:bO P Γ) (cL:J s) {m:Nat} {t e:TypeId} {x y:Operand} {it aG:bN} {b n cap:Nat} {k:IntKind} {z:Int} {j:Nat} (aC:iy l.toArray m i=true) (aN:l.toArray[i]? = some o) (ay:o.dst=some d) (aT:aa' d N=true)
  (av:c4 l env o) (ah:o.op = .indexAddr t x y) (aL:Γ.get? t=some it) (bq:it.bH = .aB e) (bL:Γ.get? e=some aG)
  (ab:aK (b2 l env o) x=some (eh b n cap)) (ax:aK (b2 l env o) y=some (.int k z)) (eR:z=(j:Int)) (aH:j<n)
  (h:bm J P Γ N l.toArray Q (bX (m|||2^i)) ((d,.ptr b (j*aG.size))::env) s):bm J P Γ N l.toArray Q (bX m) env s:=
 bm.rY cL aC aN ay aT av (fun _ _=>a6.fc aQ ah aL bq bL ab ax eR aH) h
end
section
variable {P:Program} {Γ:cy} {N:Nat} {ops:Array Oper} {Q:b6→Env→al→Prop} {env:Env} {s:al} {l:List Oper} {o:Oper} {d:Nat}
theorem a6.q1 (aQ:bO P Γ) {t e:TypeId} {x:Operand} {it:bN} {b n cap:Nat} (ah:o.op = .call { callee := .builtin .len,args := #[x],argTypes := #[t] }) (aL:Γ.get? t=some it) (bq:it.bH = .aB e) (ab:aK env x=some (eh b n cap)) :
  a6 P N o env s (fun x ak=>x = .int .i64 n∧ak=s) (fun _ _=>False):=by
 refine a6.ns ja fun ro B a w p aJ=>?_
 obtain ⟨info,d,U,ad,aj,-⟩:=aQ.parts aL;have ay:d = .slice e:=by rw [bq] at aj;cases d<;>simp [ev] at aj;rw [aj]
 subst ay;have aC:=aJ.aK ab;generalize au:a.eval x=dQ at aC;cases aC;refine .same (val := .int .i64 n) ?_ (.int _ _);unfold execOp;rw [ah];simp [Go.resolve,Go.invoke,Go.builtin,ac',ae5,i5,au,Builtin.len_,run_underlying ad,goInt]
theorem aa.q1 (aQ:bO P Γ) {t e:TypeId} {x:Operand} {it:bN} {b n cap:Nat} (av:guardOf ops env o=some true) (ay:o.dst=some d) (aT:aa' d N=true) (ah:o.op = .call { callee := .builtin .len,args := #[x],argTypes := #[t] }) (aL:Γ.get? t=some it) (bq:it.bH = .aB e) (ab:aK env x=some (eh b n cap))
  (h:aa P N ops l Q ((d,.int .i64 n)::env) s):aa P N ops (o::l) Q env s:=
 aa.op av ay aT (a6.q1 aQ ah aL bq ab) (fun x ak ⟨U,ad⟩=>by subst U;subst ad;exact h) (fun _ _ h=>h.elim)
theorem a6.AF (aQ:bO P Γ) {t e:TypeId} {x y:Operand} {it aG:bN} {b n cap k:Nat} {q2:IntKind} (ah:o.op = .slice t x none (some y) none) (aL:Γ.get? t=some it) (bq:it.bH = .aB e) (bL:Γ.get? e=some aG) (ab:aK env x=some (eh b n cap)) (ax:aK env y=some (.int q2 (k:Int))) (aA:k≤cap) :
  a6 P N o env s (fun x ak=>x=eh b k cap∧ak=s) (fun _ _=>False):=by
 refine a6.ns ja fun ro B a w p aJ=>?_
 obtain ⟨info,d,U,ad,aj,-⟩:=aQ.parts aL;obtain ⟨jO,kv,cF,dj,fe,eI,-⟩:=aQ.parts bL;have ay:d = .slice e:=by rw [bq] at aj;cases d<;>simp [ev] at aj;rw [aj]
 subst ay;have aC:=aJ.aK ab;have fj:=aJ.aK ax;generalize ew:a.eval x=dQ at aC;generalize ff:a.eval y=fY at fj;cases aC;cases fj;refine .same (val := .slice (some ⟨b,0,none⟩) k cap) ?_ (.hC _);unfold execOp;rw [ah];simp only [ew,at7,ao2,ff];refine gS ?_;have az:(0:Int)≤(k:Int):=by omega
 have aF:(k:Int)≤(cap:Int):=by omega
 have an:(Instr.sliceBounds true n cap none (some (.int q2 (k:Int))) none).run P w = .ok (0,k,cap) w:=by
  simp [Instr.sliceBounds,run_sliceBound,az,aF]
 simp only [Instr.sliceAt,Instr.slice,ac',run_underlying ad,i5,an,sizeOf,typeInfo,run_program,cF,ae5,eI,az8,Nat.zero_mul];by_cases bu:cap=0
 ·simp [bu]
 ·simp [bu,lo]
theorem aa.AF (aQ:bO P Γ) {t e:TypeId} {x y:Operand} {it aG:bN} {b n cap:Nat} (k:Nat) {q2:IntKind} (av:guardOf ops env o=some true) (ay:o.dst=some d) (aT:aa' d N=true) (ah:o.op = .slice t x none (some y) none) (aL:Γ.get? t=some it) (bq:it.bH = .aB e) (bL:Γ.get? e=some aG)
  (ab:aK env x=some (eh b n cap)) (ax:aK env y=some (.int q2 (k:Int))) (aA:k≤cap) (h:aa P N ops l Q ((d,eh b k cap)::env) s):aa P N ops (o::l) Q env s:=
 aa.op av ay aT (a6.AF aQ ah aL bq bL ab ax aA) (fun x ak ⟨U,ad⟩=>by subst U;subst ad;exact h) (fun _ _ h=>h.elim)
theorem aa.fc (aQ:bO P Γ) {t e:TypeId} {x y:Operand} {it aG:bN} {b n cap:Nat} {k:IntKind} {i:Int} (j:Nat) (av:guardOf ops env o=some true) (ay:o.dst=some d) (aT:aa' d N=true) (ah:o.op = .indexAddr t x y) (aL:Γ.get? t=some it) (bq:it.bH = .aB e) (bL:Γ.get? e=some aG)
  (ab:aK env x=some (eh b n cap)) (ax:aK env y=some (.int k i)) (eR:i=(j:Int)) (aH:j<n) (h:aa P N ops l Q ((d,.ptr b (j*aG.size))::env) s):aa P N ops (o::l) Q env s:=
 aa.op av ay aT (a6.fc aQ ah aL bq bL ab ax eR aH) (fun x ak ⟨U,ad⟩=>by subst U;subst ad;exact h) (fun _ _ h=>h.elim)
end
theorem UD {m n:Nat} (hm:m<2^64) (az:n<2^64):m|||n<2^64:=aj2 hm az
theorem LG {m n:Nat} (hm:m<2^64):m &&& n<2^64:=aj6 av3 hm
def k2 (m n:Nat):Nat:=m &&& (18446744073709551615 ^^^ n)
theorem r5 (m:Nat):ak1 64 (m:Int)=aA3 64 m:=by
 apply BitVec.eq_of_toNat_eq;rw [BitVec.toNat_ofInt,al2];omega
theorem wrap64 {m:Nat} (h:m<2^64):ad5 .u64 (m:Int)=(m:Int):=by
 unfold ad5;simp [am5,ay3];omega
section
variable {P:Program} {N:Nat} {ops:Array Oper} {Q:b6→Env→al→Prop} {env:Env} {s:al} {l:List Oper} {o:Oper} {d:Nat}
theorem a6.shl {t yt:TypeId} {x y:Operand} {k k':IntKind} {a b r:Int} (ah:o.op = .binOp .shl t x y yt) (ab:aK env x=some (.int k a)) (ax:aK env y=some (.int k' b)) (an:0≤b) (aC:k.wrap (a*2^(min b.toNat k.bits))=r) :
  a6 P N o env s (fun x ak=>x = .int k r∧ak=s) (fun _ _=>False):=by
 refine a6.ns ja fun ro B c8 w p aJ=>?_
 have U:=aJ.aK ab;have ad:=aJ.aK ax;generalize ew:c8.eval x=dQ at U;generalize ff:c8.eval y=fY at ad;cases U;cases ad;refine uE (v := .int k r) ah ?_ ?_ (.int _ _)
 ·rw [ew,ff];unfold eqGuard;simp
 ·rw [ew,ff]
  have dR:¬ b<0:=by omega
  simp only [binOp,Op.shift,dR,ah9,aC];rfl
theorem a6.shr {t yt:TypeId} {x y:Operand} {k k':IntKind} {a b r:Int} (ah:o.op = .binOp .shr t x y yt) (ab:aK env x=some (.int k a)) (ax:aK env y=some (.int k' b)) (an:0≤b) (aC:a.fdiv (2^(min b.toNat k.bits))=r) :
  a6 P N o env s (fun x ak=>x = .int k r∧ak=s) (fun _ _=>False):=by
 refine a6.ns ja fun ro B c8 w p aJ=>?_
 have U:=aJ.aK ab;have ad:=aJ.aK ax;generalize ew:c8.eval x=dQ at U;generalize ff:c8.eval y=fY at ad;cases U;cases ad;refine uE (v := .int k r) ah ?_ ?_ (.int _ _)
 ·rw [ew,ff];unfold eqGuard;simp
 ·rw [ew,ff]
  have dR:¬ b<0:=by omega
  simp only [binOp,Op.shift,dR,ah9,aC];rfl
def bitsOf (op:BinOp) (k:IntKind) (a b:Int):Option Int:=match op with
 | .and=>some (k.wrap (ak1 k.bits a &&& ak1 k.bits b).toNat)
 | .or=>some (k.wrap (ak1 k.bits a|||ak1 k.bits b).toNat)
 | .xor=>some (k.wrap (ak1 k.bits a ^^^ ak1 k.bits b).toNat)
 | .andNot=>some (k.wrap (ak1 k.bits a &&& ~~~(ak1 k.bits b)).toNat)
 | _=>none
theorem a6.bits {op:BinOp} {t yt:TypeId} {x y:Operand} {k:IntKind} {a b r:Int} (ah:o.op = .binOp op t x y yt) (ab:aK env x=some (.int k a)) (ax:aK env y=some (.int k b)) (aC:bitsOf op k a b=some r) :
  a6 P N o env s (fun x ak=>x = .int k r∧ak=s) (fun _ _=>False):=by
 refine a6.ns ja fun ro B c8 w p aJ=>?_
 have U:=aJ.aK ab;have ad:=aJ.aK ax;generalize ew:c8.eval x=dQ at U;generalize ff:c8.eval y=fY at ad;cases U;cases ad;refine uE (v := .int k r) ah ?_ ?_ (.int _ _)
 ·rw [ew,ff];unfold eqGuard;cases op<;>first|rfl|(cases aC;done)
 ·rw [ew,ff]
  cases op<;>simp only [bitsOf] at aC<;>first|(cases aC;done)|(cases aC;simp only [binOp,ne_eq,not_true_eq_false,ah9,Op.intBits];rfl)
theorem aa.shl {t yt:TypeId} {x y:Operand} {k k':IntKind} {a b:Int} (r:Int) (av:guardOf ops env o=some true) (ay:o.dst=some d) (aT:aa' d N=true) (ah:o.op = .binOp .shl t x y yt) (ab:aK env x=some (.int k a)) (ax:aK env y=some (.int k' b)) (an:0≤b) (aC:k.wrap (a*2^(min b.toNat k.bits))=r)
  (h:aa P N ops l Q ((d,.int k r)::env) s):aa P N ops (o::l) Q env s:=
 aa.op av ay aT (a6.shl ah ab ax an aC) (fun x ak ⟨U,ad⟩=>by subst U;subst ad;exact h) (fun _ _ h=>h.elim)
theorem aa.shr {t yt:TypeId} {x y:Operand} {k k':IntKind} {a b:Int} (r:Int) (av:guardOf ops env o=some true) (ay:o.dst=some d) (aT:aa' d N=true) (ah:o.op = .binOp .shr t x y yt) (ab:aK env x=some (.int k a)) (ax:aK env y=some (.int k' b)) (an:0≤b) (aC:a.fdiv (2^(min b.toNat k.bits))=r)
  (h:aa P N ops l Q ((d,.int k r)::env) s):aa P N ops (o::l) Q env s:=
 aa.op av ay aT (a6.shr ah ab ax an aC) (fun x ak ⟨U,ad⟩=>by subst U;subst ad;exact h) (fun _ _ h=>h.elim)
theorem aa.bits {op:BinOp} {t yt:TypeId} {x y:Operand} {k:IntKind} {a b:Int} (r:Int) (av:guardOf ops env o=some true) (ay:o.dst=some d) (aT:aa' d N=true) (ah:o.op = .binOp op t x y yt) (ab:aK env x=some (.int k a)) (ax:aK env y=some (.int k b)) (aC:bitsOf op k a b=some r)
  (h:aa P N ops l Q ((d,.int k r)::env) s):aa P N ops (o::l) Q env s:=
 aa.op av ay aT (a6.bits ah ab ax aC) (fun x ak ⟨U,ad⟩=>by subst U;subst ad;exact h) (fun _ _ h=>h.elim)
end
theorem wL {m n:Nat} (hm:m<2^64) (az:n<2^64):bitsOf .or .u64 (m:Int) (n:Int)=some ((m|||n:Nat):Int):=by
 show some (ad5 .u64 ((ak1 64 (m:Int)|||ak1 64 (n:Int)).toNat:Int))=_;rw [r5,r5,aB9,al2,al2,am0 hm,am0 az,wrap64 (UD hm az)]
theorem uQ {m n:Nat} (hm:m<2^64) (az:n<2^64):bitsOf .and .u64 (m:Int) (n:Int)=some ((m &&& n:Nat):Int):=by
 show some (ad5 .u64 ((ak1 64 (m:Int) &&& ak1 64 (n:Int)).toNat:Int))=_;rw [r5,r5,ax1,al2,al2,am0 hm,am0 az,wrap64 (LG hm)]
theorem GQ {m:Nat} (h:m<2^63):ad5 .i64 (m:Int)=(m:Int):=by
 unfold ad5;simp [am5,ay3];omega
theorem LH {m n:Nat} (hm:m<2^63) (az:n<2^63):bitsOf .or .i64 (m:Int) (n:Int)=some ((m|||n:Nat):Int):=by
 show some (ad5 .i64 ((ak1 64 (m:Int)|||ak1 64 (n:Int)).toNat:Int))=_;rw [r5,r5,aB9,al2,al2,am0 ag,am0 ag,GQ (aj2 hm az)]
theorem q3 {m n:Nat} (hm:m<2^63) (az:n<2^63):bitsOf .and .i64 (m:Int) (n:Int)=some ((m &&& n:Nat):Int):=by
 show some (ad5 .i64 ((ak1 64 (m:Int) &&& ak1 64 (n:Int)).toNat:Int))=_;rw [r5,r5,ax1,al2,al2,am0 ag,am0 ag,GQ (aj6 av3 hm)]
theorem Dv {m n:Nat} (hm:m<2^64) (az:n<2^64):bitsOf .andNot .u64 (m:Int) (n:Int)=some ((k2 m n:Nat):Int):=by
 show some (ad5 .u64 ((ak1 64 (m:Int) &&& ~~~(ak1 64 (n:Int))).toNat:Int))=_;rw [r5,r5];unfold k2;have h:(aA3 64 m &&& ~~~(aA3 64 n)).toNat=m &&& (18446744073709551615 ^^^ n):=by
  rw [ax1,BitVec.toNat_not,al2,al2,am0 hm,am0 az];apply al8;intro i;rw [ak2,ak2,Nat.testBit_xor];have ad:2^64-1-n=2^64-(n+1):=by omega
  rw [ad,Nat.testBit_two_pow_sub_succ az,show (18446744073709551615:Nat)=2^64-1 from rfl,ai1];by_cases aN:i<64
  ·simp [aN]
  ·have:m.testBit i=false:=Nat.testBit_lt_two_pow (ak8 hm (Nat.pow_le_pow_right ag ag))
   simp [this]
 rw [h,wrap64 (LG hm)]
theorem Dw {c:Nat} (h:c<64):ad5 .u64 (1*2^(min (c:Int).toNat (am5 .u64)))=((2^c:Nat):Int):=by
 have U:min (c:Int).toNat (am5 .u64)=c:=by simp [am5];omega
 rw [U];have ad:(1*2^c:Int)=((2^c:Nat):Int):=by push_cast;omega
 rw [ad,wrap64 (ai4 ag h)]
theorem r6 {m c:Nat} (h:c<64):Int.fdiv (m:Int) (2^(min (c:Int).toNat (am5 .u64)))=((m >>> c:Nat):Int):=by
 have U:min (c:Int).toNat (am5 .u64)=c:=by simp [am5];omega
 rw [U,Nat.shiftRight_eq_div_pow];have ad:(2^c:Int)=((2^c:Nat):Int):=by push_cast;rfl
 rw [ad,Int.fdiv_eq_ediv_of_nonneg _ (Int.natCast_nonneg _)];rfl
theorem ae.b9 {P:Program} {N:Nat} {Q:b6→Env→al→Prop} {env:Env} {s:al} {L:a8} {σ:Type} {c:Code} (gl:List Nat) {AG:Env} (aA:wF gl env []=(AG,())) (I:Ok s L) (dA:σ→Env) (K:σ→a8) (aen:σ→Prop) (μ:σ→Nat) (nZ:σ) {Gu:a8} (aq:aen nZ) (eB:Env.Sub (dA nZ) env) (cc:aI L (K nZ) Gu)
  (round:∀ x,aen x→Ok s (K x)→ae P N c (b6.andThen (bp s (fun z=>dA z++AG) K aen (fun y=>μ y<μ x)) Q) (dA x++AG) (aS s (K x))):ae P N (.loop c) Q env (aS s L):=
 ae.yo I (fun z=>dA z++AG) K aen μ nZ aq (eB.append (Aq gl [] AG trivial aA)) cc round
section
variable {P:Program} {Γ:cy} {N:Nat} {ops:Array Oper} {Q:b6→Env→al→Prop} {env:Env} {s:al} {l:List Oper} {o:Oper} {d:Nat}
theorem a6.arr (aQ:bO P Γ) {t e:TypeId} {x y:Operand} {it aG:bN} {k:IntKind} {len b off j:Nat} {i:Int} (ah:o.op = .indexAddr t x y) (aL:Γ.get? t=some it) (bq:it.bH = .arr len e) (bL:Γ.get? e=some aG) (ab:aK env x=some (.ptr b off)) (ax:aK env y=some (.int k i)) (eR:i=(j:Int)) (aH:j<len) :
  a6 P N o env s (fun x ak=>x = .ptr b (off+j*aG.size)∧ak=s) (fun _ _=>False):=by
 obtain ⟨info,wM,U,ad,aj,-⟩:=aQ.parts aL;obtain ⟨jO,kv,cF,dj,fe,eI,-⟩:=aQ.parts bL;obtain rfl:=zM (aj.trans bq);refine a6.ns ja fun ro B a w p aJ=>?_
 have U:=aJ.aK ab;have n1:=aJ.aK ax;generalize ew:a.eval x=dQ at U;generalize ff:a.eval y=fY at n1;cases U;cases n1;subst eR;refine .same (val := .pointer (some ⟨b,off+j*aG.size,none⟩)) ?_ (.ptr b _);unfold execOp;rw [ah];simp only [ew,ff];refine gS ?_;simp [Instr.indexAt,asIntOf,run_underlying ad,aH,sizeOf,typeInfo,cF,eI,lo,Instr.sureAddr]
theorem a6.l1 (aQ:bO P Γ) {t e:TypeId} {x y:Operand} {it aG:bN} {k:IntKind} {len off j:Nat} {cs:List af} {i:Int} (ah:o.op = .indexAddr t x y) (aL:Γ.get? t=some it) (bq:it.bH = .arr len e) (bL:Γ.get? e=some aG) (ab:aK env x=some (.br cs off)) (ax:aK env y=some (.int k i)) (eR:i=(j:Int)) (aH:j<len) :
  a6 P N o env s (fun x ak=>x = .br cs (off+j*aG.size)∧ak=s) (fun _ _=>False):=by
 obtain ⟨info,wM,U,ad,aj,-⟩:=aQ.parts aL;obtain ⟨jO,kv,cF,dj,fe,eI,-⟩:=aQ.parts bL;obtain rfl:=zM (aj.trans bq);refine a6.ns ja fun ro B a w p aJ=>?_
 have U:=aJ.aK ab;have n1:=aJ.aK ax;generalize ew:a.eval x=dQ at U;generalize ff:a.eval y=fY at n1;cases n1;subst eR;cases U with
 | br b base o' _ vs _ cC aF aC=>
 refine .same (val := .pointer (some ⟨b,o'+j*aG.size,none⟩)) ?_ (.br b base _ _ vs cs ag aF aC);unfold execOp;rw [ah];simp only [ew,ff];refine gS ?_;simp [Instr.indexAt,asIntOf,run_underlying ad,aH,sizeOf,typeInfo,cF,eI,lo,Instr.sureAddr]
theorem aa.arr (aQ:bO P Γ) {t e:TypeId} {x y:Operand} {it aG:bN} {k:IntKind} {len b off:Nat} {i:Int} (j:Nat) (av:guardOf ops env o=some true) (ay:o.dst=some d) (aT:aa' d N=true) (ah:o.op = .indexAddr t x y) (aL:Γ.get? t=some it) (bq:it.bH = .arr len e) (bL:Γ.get? e=some aG) (ab:aK env x=some (.ptr b off)) (ax:aK env y=some (.int k i)) (eR:i=(j:Int)) (aH:j<len)
  (h:aa P N ops l Q ((d,.ptr b (off+j*aG.size))::env) s):aa P N ops (o::l) Q env s:=
 aa.op av ay aT (a6.arr aQ ah aL bq bL ab ax eR aH) (fun x ak ⟨U,ad⟩=>by subst U;subst ad;exact h) (fun _ _ h=>h.elim)
theorem aa.l1 (aQ:bO P Γ) {t e:TypeId} {x y:Operand} {it aG:bN} {k:IntKind} {len off:Nat} {cs:List af} {i:Int} (j:Nat) (av:guardOf ops env o=some true) (ay:o.dst=some d) (aT:aa' d N=true) (ah:o.op = .indexAddr t x y) (aL:Γ.get? t=some it) (bq:it.bH = .arr len e) (bL:Γ.get? e=some aG) (ab:aK env x=some (.br cs off)) (ax:aK env y=some (.int k i)) (eR:i=(j:Int)) (aH:j<len)
  (h:aa P N ops l Q ((d,.br cs (off+j*aG.size))::env) s):aa P N ops (o::l) Q env s:=
 aa.op av ay aT (a6.l1 aQ ah aL bq bL ab ax eR aH) (fun x ak ⟨U,ad⟩=>by subst U;subst ad;exact h) (fun _ _ h=>h.elim)
end
def mz (first i:Int):List Int→List Int→Bool
 | _,[]=>true
 | seen,c::r=>decide (c≥first)&&(decide (c<first+i)&&(!seen.contains c&&mz first i (seen++[c]) r))
def oc:Nat→List (List Int)→Bool
 | _,[]=>true
 | i,l::r=>decide (l.length≤3)&&(mz 3 i [] l&&oc (i+1) r)
def mA (g:List (List Int)):Bool:=decide (g.length≤16)&&oc 0 g
def ft (n:Int) (l:List Int):List Int:=l.filter fun x=>x != n
def free (all:List (List Int)) (c:Int):Bool:=all.all fun l => !(l.drop 1).contains c
def pick (all:List (List Int)):List (List Int)→Option Int
 | []=>none
 | []::r=>pick all r
 | (c::_)::r=>if free all c then some c else pick all r
def total (all:List (List Int)):Nat:=(all.map List.length).sum
def merge:Nat→List (List Int)→List Int→List Int×Bool
  | 0,_,acc=>(acc,false)
  | k+1,all,acc=>match pick all all with
    | none=>(acc,all.all aq2)
    | some c=>merge k (all.map (ft c)) (acc++[c])
def merged (all:List (List Int)):List Int×Bool:=merge (total all+1) all []
def parents (g:List (List Int)) (c:Nat):List Int:=if c<3 then [] else g.getD (c-3) []
def iP (fC:List (List Int)):List Int→Option (List (List Int))
 | []=>some []
 | p::r=>if (fC.getD p.toNat []).isEmpty then none else (iP fC r).map fun l=>ft 0 (fC.getD p.toNat [])::l
def lists (g:List (List Int)) (fC:List (List Int)) (c:Nat):Option (List (List Int)):=(iP fC (parents g c)).map fun l=>l++[parents g c]
def order (g:List (List Int)) (fC:List (List Int)) (c:Nat):List Int:=match lists g fC c with
 | none=>[]
 | some all=>if (merged all).2 then (c:Int)::(merged all).1++[0] else []
def fC (g:List (List Int)):Nat→List (List Int)
 | 0=>[[0]]
 | k+1=>fC g k++[order g (fC g k) (k+1)]
theorem tw (g:List (List Int)):∀ k,(fC g k).length=k+1
 | 0=>rfl
 | k+1=>by rw [fC,f8,tw g k];rfl
theorem yv (n:Int) (l:List Int):(ft n l).length≤l.length:=aj1 ..
theorem UE (n:Int) (l:List Int):ft n (n::l)=ft n l:=by unfold ft;simp
theorem UF (n:Int) (all:List (List Int)):total (all.map (ft n))≤total all:=by
 unfold total
 induction all with
 | nil=>exact g9 _
 | cons l r aX=>
  have:=yv n l;simp only [ae2,List.sum_cons] at aX ⊢;omega
theorem Dx {n:Int} {all:List (List Int)} (h:∃ t,n::t∈all):total (all.map (ft n))<total all:=by
 obtain ⟨t,h⟩:=h
 induction all with
 | nil=>cases h
 | cons l r aX=>
  have bu:total (l::r)=l.length+total r:=rfl;have U:total ((l::r).map (ft n))=(ft n l).length+total (r.map (ft n)):=rfl;rw [bu,U];rcases af1.1 h with rfl|h
  ·have ad:=yv n t
   have aj:=UF n r;rw [UE,i0];omega
  ·have:=aX h
   have:=yv n l;omega
theorem uR {all:List (List Int)} {c:Int}:∀ {l:List (List Int)},pick all l=some c→∃ t,c::t∈l
  | [],h=>by cases h
  | []::r,h=>by
    obtain ⟨t,h⟩:=uR (l:=r) h;exact ⟨t,i6 _ h⟩
  | (d::q)::r,h=>by
    rw [pick] at h;split at h
    · cases h;exact ⟨q,i8⟩
    · obtain ⟨t,h⟩:=uR (l:=r) h
      exact ⟨t,i6 _ h⟩
structure bw where
 atom:Int
 no:Int
 yes:Int
 ms:List Int
 deriving DecidableEq,Inhabited
def lz:List Int→Bool
 | []=>true
 | [x]=>decide (x≥0)
 | x::y::r=>decide (x≥0)&&(decide (x<y)&&lz (y::r))
def iA (len i:Nat) (x:bw):Bool:=
 if x.atom = -1 then decide (x.no=0)&&(decide (x.yes=0)&&(decide (x.ms.length≤16)&&lz x.ms))
 else decide (x.atom≥0)&&(decide (x.atom<7)&&(decide (x.no>i)&&(decide (x.no<len)&&(decide (x.yes>i)&&(decide (x.yes<len)&&x.ms.isEmpty)))))
def m1 (len:Nat):Nat→List bw→Bool
 | _,[]=>true
 | i,x::r=>iA len i x&&m1 len (i+1) r
def hn (g:List bw):Bool:=decide (1≤g.length)&&(decide (g.length≤300)&&m1 g.length 0 g)
def fu:Nat→List bw→List Int
 | _,[]=>[]
 | i,x::r=>
  let h:=fu (i+1) r
  (if x.atom≥0 then 1+max (h.getD (x.no.toNat-(i+1)) 0) (h.getD (x.yes.toNat-(i+1)) 0) else 0)::h
def kC (g:List bw):Int:=(fu 0 g).getD 0 0
def od {α:Type} (f:Nat→α→Bool):Nat→List α→Option Nat
  | _,[]=>none
  | k,x::r=>match od f (k+1) r with
    | some j=>some j
    | none=>if f k x then some k else none
def b3:Nat→List bw→List Int×List bw
 | _,[]=>([],[])
 | i,x::r=>
  let p:=b3 (i+1) r
  let y:bw:=if x.atom≥0 then { x with no:=p.1.getD (x.no.toNat-(i+1)) 0,yes:=p.1.getD (x.yes.toNat-(i+1)) 0 } else x
  let k:Int:=match od (fun k z=>p.1.getD k 0==((i+1+k:Nat):Int)&&z==y) 0 p.2 with
   | some k=>((i+1+k:Nat):Int)
   | none=>(i:Int)
  (k::p.1,y::p.2)
def meet (g:List bw):Nat→List Int→Int→List Int
 | 0,order,_=>order
 | k+1,order,eU=>
  if order.contains eU then order
  else
   let x:=g.getD eU.toNat default
   (if x.atom≥0 then meet g k (meet g k order x.yes) x.no else order)++[eU]
def placeOf (l:List Int) (n:Int):Int:=((l.findIdx? (· == n)).getD 0:Nat)
def small (g:List bw):List bw:=
 let p:=b3 0 g
 let order:=meet p.2 (g.length+1) [] (p.1.getD 0 0)
 order.reverse.map fun eU=>
  let x:=p.2.getD eU.toNat default
  if x.atom≥0 then { x with no:=(order.length:Int)-1-placeOf order x.no,yes:=(order.length:Int)-1-placeOf order x.yes } else x
def bB:Nat:=1099511627776
theorem bG:bB=1099511627776:=rfl
theorem b5 {α:Type} {f:α→af} {l:List α} {j:Nat} (h:j<l.length):∃ x,l[j]? = some x∧(l.map f)[j]? = some (f x):=
 ⟨l[j],f7 h,by simp [h]⟩
theorem drop_cons {α:Type} {l:List α} {j:Nat} {x:α} (h:l[j]? = some x):l.drop j=x::l.drop (j+1):=by
 obtain ⟨U,ad⟩:=t7.1 h;rw [List.drop_eq_getElem_cons U,ad]
theorem eG {α:Type} {l:List α} {j:Nat} (h:l.length≤j):l.drop j=[]:=List.drop_eq_nil_of_le h
theorem hZ {α:Type} {l:List α} {j:Nat} {x:α} (h:l[j]? = some x):l.take (j+1)=l.take j++[x]:=by
 rw [List.take_add_one,h];rfl
theorem oe {α:Type} {l:List α} {j:Nat} {x:α} (h:l[j]? = some x):j<l.length:=(t7.1 h).1
def bb (n:Int):af := .int .i64 n
def bg (l:List Int):af := .aB 1 (l.map bb) .bc
def cZ (g:List (List Int)):af := .aB 1 (g.map bg) .bc
theorem LI (l:List Int) (n:Int) (aE:l.length<bB):aV d0 92 [bg l,.int .i64 n] (.int .i64 (match l.findIdx? (· == n) with
  | some i=>(i:Int)
  | none => -1)):=by
 have an:=bG;refine aV.bl ai Tryz.func92 C C fun s I=>?_
 unfold bg;refine gy ?_;refine ae.b9 [0,1,7] C I (σ:=Nat) (fun j=>[(8,.int .i64 (j:Int))]) (fun _=>[]) (fun j=>j≤l.length∧∀ i,i<j→l[i]? ≠ some n) (fun j=>l.length-j) 0 ⟨g8 _,fun i aN=>absurd aN (ao9 _)⟩ (cz C) a1 ?_;rintro j ⟨aH,aq⟩ I;refine b8 ?_;refine ae.cond C (fun aw=>?_) (fun aY=>?_);rotate_left;have aY:j=l.length:=by
  have:l.length≤j:=by simpa using aY
  omega
 ·have ab:l.findIdx? (· == n)=none:=by
   rw [ah'];intro z bE;obtain ⟨i,aN⟩:=ag2 bE;have U:=oe aN;have ad:=aq i ag;simp only [beq_eq_false_iff_ne];intro e;subst e;exact ad aN
  rw [ab];refine ef ?_;exact bA I
 have aw:j<l.length:=by simpa using aw
 obtain ⟨y,ax,c7⟩:=b5 (f:=bb) aw;unfold bb at c7;refine bD ?_;refine ae.cond C (fun az=>?_) (fun az=>?_)
 ·have az:n=y:=by simpa using az
  subst az;have ab:l.findIdx? (· == n)=some j:=by
   rw [ah3];refine ⟨aw,by simpa using (t7.1 ax).2,fun i aN=>?_⟩;have:=aq i aN;rw [f7 ag] at this;simpa using this
  rw [ab];refine js ?_;exact bA I
 ·have az:n≠y:=by simpa using az
  refine gr ?_;refine bp.mk (j+1) I ⟨aw,?_⟩ ck a1 (by show l.length-(j+1)<l.length-j;omega);intro i aN;rcases ah5.1 aN with aN|rfl
  ·exact aq i aN
  ·rw [ax];intro e;cases e;exact az C
theorem LJ (l:List Int) (n:Int):decide ((match l.findIdx? (· == n) with
  | some i=>(i:Int)
  | none => -1)≥0)=l.contains n:=by
 cases h:l.findIdx? (· == n) with
 | none=>
  rw [ah'] at h;have:n∉l:=fun az=>by have:=h n az;simp at this
  simp [this]
 | some i=>
  rw [ah3] at h;obtain ⟨aN,U,_⟩:=h;have e:l[i]=n:=by simpa using U
  have:n∈l:=by rw [← e];exact am9 aN
  simp [this]
theorem yw (l:List Int) (n:Int) (aE:l.length<bB):aV d0 43 [bg l,.int .i64 n] (.bool (l.contains n)):=by
 rw [← LJ];refine aV.bl ai Tryz.func43 C C fun s I=>?_
 refine dF ?_;refine aa.eb C C C C C (LI l n aE) ?_;refine eA ?_;exact bA I
theorem LK (l:List Int) (n:Int) (aE:l.length<bB):aV d0 218 [bg l,.int .i64 n] (.bool (l.contains n)):=by
 have an:=bG;refine aV.bl ai Tryz.func218 C C fun s I=>?_
 unfold bg;refine gy ?_;refine ae.b9 [0,1] C I (σ:=Nat) (fun j=>[(5,.int .i64 (j:Int))]) (fun _=>[]) (fun j=>j≤l.length∧∀ i,i<j→l[i]? ≠ some n) (fun j=>l.length-j) 0 ⟨g8 _,fun i aN=>absurd aN (ao9 _)⟩ (cz C) a1 ?_;rintro j ⟨aH,aq⟩ I;refine b8 ?_;refine ae.cond C (fun aw=>?_) (fun aY=>?_);rotate_left;have aY:j=l.length:=by
  have:l.length≤j:=by simpa using aY
  omega
 ·have ab:l.contains n=false:=by
   rw [af5];intro hm;have hm:n∈l:=by simpa using hm
   obtain ⟨i,aN⟩:=ag2 hm;exact aq i (by have:=oe aN;omega) aN
  rw [ab];refine ef ?_;exact bA I
 have aw:j<l.length:=by simpa using aw
 obtain ⟨y,ax,c7⟩:=b5 (f:=bb) aw;unfold bb at c7;refine dL ?_;refine ae.cond C (fun az=>?_) (fun az=>?_)
 ·have az:y=n:=by simpa using az
  subst az;have ab:l.contains y=true:=by simpa using d6 ax
  rw [ab];refine js ?_;exact bA I
 ·have az:y≠n:=by simpa using az
  refine gr ?_;refine bp.mk (j+1) I ⟨aw,?_⟩ ck a1 (by show l.length-(j+1)<l.length-j;omega);intro i aN;rcases ah5.1 aN with aN|rfl
  ·exact aq i aN
  ·rw [ax];intro e;cases e;exact az C
theorem uS (a b:List Int) (aE:a.length<bB) (AH:b.length<bB):aV d0 37 [bg a,bg b] (.bool (a==b)):=by
 have an:=bG;refine aV.bl ai Tryz.func37 C C fun s I=>?_
 unfold bg;refine b8 ?_;refine ae.cond C (fun h=>?_) (fun h=>?_)
 ·have cE:(a==b)=false:=by
   rw [beq_eq_false_iff_ne];intro e;simp [e] at h
  rw [cE];refine gT ?_;exact bA I
 ·have eY:a.length=b.length:=by simp at h;omega
  refine jG ?_;refine ae.b9 [0,1,12] C I (σ:=Nat) (fun j=>[(13,.int .i64 (j:Int))]) (fun _=>[]) (fun j=>j≤a.length∧(a==b)=(a.drop j==b.drop j)) (fun j=>a.length-j) 0 ⟨g8 _,rfl⟩ (cz C) a1 ?_;rintro j ⟨aH,aq⟩ I;refine b8 ?_;refine ae.cond C (fun aw=>?_) (fun aY=>?_);rotate_left;have aY:j=a.length:=by
   have:a.length≤j:=by simpa using aY
   omega
  ·rw [eG ag,eG ag] at aq
   rw [aq];refine ef ?_;exact bA I
  have aw:j<a.length:=by simpa using aw
  obtain ⟨x,ab,bP⟩:=b5 (f:=bb) aw;obtain ⟨y,ax,c7⟩:=b5 (f:=bb) (by omega:j<b.length);rw [drop_cons ab,drop_cons ax,as6] at aq;refine jG ?_;refine ae.qT ai mixed C (bd.run C ?_);refine bd.idx 2 j C C C C C C C C C C C C C bP C ?_;refine bd.idx 6 j C C C C C C C C C C C C C c7 C ?_;refine bd.run C (bd.done C ?_);refine ae.cond C (fun az=>?_) (fun az=>?_)
  ·have az:x≠y:=by simpa using az
   rw [aq,beq_false_of_ne az];refine js ?_;exact bA I
  ·have az:x=y:=by simpa using az
   subst az;rw [beq_self_eq_true,f5] at aq;refine gr ?_;refine bp.mk (j+1) I ⟨aw,aq⟩ ck a1 Dp
theorem yx (a b:List Int) (aE:a.length<bB) (AH:b.length<bB):aV d0 24 [bg a,bg b] (.bool (a==b)):=by
 have an:=bG;refine aV.bl ai Tryz.func24 C C fun s I=>?_
 unfold bg;refine b8 ?_;refine ae.cond C (fun h=>?_) (fun h=>?_)
 ·have cE:(a==b)=false:=by
   rw [beq_eq_false_iff_ne];intro e;simp [e] at h
  rw [cE];refine gT ?_;exact bA I
 ·have eY:a.length=b.length:=by simp at h;omega
  refine jG ?_;refine ae.b9 [0,1,12] C I (σ:=Nat) (fun j=>[(13,.int .i64 (j:Int))]) (fun _=>[]) (fun j=>j≤a.length∧(a==b)=(a.drop j==b.drop j)) (fun j=>a.length-j) 0 ⟨g8 _,rfl⟩ (cz C) a1 ?_;rintro j ⟨aH,aq⟩ I;refine b8 ?_;refine ae.cond C (fun aw=>?_) (fun aY=>?_);rotate_left;have aY:j=a.length:=by
   have:a.length≤j:=by simpa using aY
   omega
  ·rw [eG ag,eG ag] at aq
   rw [aq];refine ef ?_;exact bA I
  have aw:j<a.length:=by simpa using aw
  obtain ⟨x,ab,bP⟩:=b5 (f:=bb) aw;obtain ⟨y,ax,c7⟩:=b5 (f:=bb) (by omega:j<b.length);rw [drop_cons ab,drop_cons ax,as6] at aq;refine jG ?_;refine ae.qT ai mixed C (bd.run C ?_);refine bd.idx 2 j C C C C C C C C C C C C C bP C ?_;refine bd.idx 6 j C C C C C C C C C C C C C c7 C ?_;refine bd.run C (bd.done C ?_);refine ae.cond C (fun az=>?_) (fun az=>?_)
  ·have az:x≠y:=by simpa using az
   rw [aq,beq_false_of_ne az];refine js ?_;exact bA I
  ·have az:x=y:=by simpa using az
   subst az;rw [beq_self_eq_true,f5] at aq;refine gr ?_;refine bp.mk (j+1) I ⟨aw,aq⟩ ck a1 Dp
theorem LL {α:Type} (q:α→Bool) {l:List α} {j:Nat} {x:α} (h:l[j]? = some x):(l.take (j+1)).filter q=(l.take j).filter q++(if q x then [x] else []):=by
 rw [hZ h,List.filter_append];congr 1;cases bk:q x<;>simp [bk]
theorem LM (fv:af) (q:Int→Bool) (bk:∀ y,eC d0 fv [.int .i64 y] (.bool (q y))) (l:List Int) (aE:l.length<bB):aV d0 307 [bg l,fv] (bg (l.filter q)):=by
 have an:=bG;obtain ⟨xs,dg⟩:∃ xs:Nat→List af,∀ j,xs j=((l.take j).filter q).map bb:=⟨_,fun _=>rfl⟩;have bu:xs 0=[]:=by rw [dg];rfl
 have fg:∀ j,(xs j).length≤l.length:=fun j=>by
  rw [dg,f0];exact am' (aj1 _ _) (al1 _ _)
 refine aV.bl ai Tryz.func307 C C fun s I=>?_
 unfold bg;refine gy ?_;refine ae.ih I 3 1 0 fun I=>?_
 refine ae.b9 [1,8,9] C I (σ:=Nat×bQ) (fun q=>[(10,.int .i64 (q.1:Int)),(5,.aB 1 (xs q.1) q.2)]) (fun q=>[(q.2,.row 3 1 (xs q.1).length)]) (fun q=>q.1≤l.length) (fun q=>l.length-q.1) (0,.nil) (g8 _) ⟨⟨_,rfl,aO⟩,⟨_,rfl,by rw [bu];exact aU.nil hk⟩,trivial⟩ (by rw [bu];exact aI.ei _) ?_;rintro ⟨j,own⟩ aH I;simp only at aH I ⊢;refine b8 ?_;refine ae.cond C (fun aw=>?_) (fun aY=>?_);rotate_left;have aY:j=l.length:=by
  have:l.length≤j:=by simpa using aY
  omega
 ·subst aY
  have he:xs l.length=(l.filter q).map bb:=by rw [dg,ae6]
  rw [he];refine ef ?_;exact Fin.cG I C aU.bc
 have aw:j<l.length:=by simpa using aw
 obtain ⟨y,ax,c7⟩:=b5 (f:=bb) aw;have ar:=dg (j+1);rw [LL q ax,ae1,← dg] at ar;have lp:=fg j;have UG:=bk y;unfold bb at c7;refine dL ?_;refine aa.mw C C C C C C UG ?_;cases au:q y with
 | true=>
  have ar:xs (j+1)=xs j++[.int .i64 y]:=by rw [ar,au];rfl
  have df:(xs (j+1)).length=(xs j).length+1:=by rw [ar];simp
  refine bD ?_;refine aa.gn ai I C C C C C C C er C C C C C C C C aZ hy ki ag (fun b0 I=>?_);refine gf ?_;refine bp.mk (j+1,.own b0) I aw ly (by show aI _ [(_,.row _ _ (xs (j+1)).length)] _;rw [df];exact aI.ei _) (by show l.length-(j+1)<l.length-j;omega)
 | false=>
  have ar:xs (j+1)=xs j:=by rw [ar,au];simp
  refine bD ?_;refine bp.mk (j+1,own) I aw ly (by show aI _ [(_,.row _ _ (xs (j+1)).length)] _;rw [ar];exact aI.ei _) (by show l.length-(j+1)<l.length-j;omega)
theorem UH (y:Int):eC d0 (.func 316 [] []) [.int .i64 y] (.bool (y != 0)):=by
 refine eC.fk (first:=[]) (cap:=[]) ?_;refine aV.bl ai Tryz.func316 C C fun s I=>?_
 refine gT ?_;exact bA I
theorem UI (l:List Int) (aE:l.length<bB):aV d0 306 [bg l] (bg (ft 0 l)):=by
 refine aV.bl ai Tryz.func306 C C fun s I=>?_
 refine dF ?_;refine aa.eb C C C C C (LM _ _ UH l aE) ?_;refine eA ?_;exact bA I
theorem GR (l:List Int) (n:Int) (aE:l.length<bB):aV d0 272 [bg l,.int .i64 n] (bg (ft n l)):=by
 have an:=bG;obtain ⟨xs,dg⟩:∃ xs:Nat→List af,∀ j,xs j=(ft n (l.take j)).map bb:=⟨_,fun _=>rfl⟩;have bu:xs 0=[]:=by rw [dg];rfl
 have fg:∀ j,(xs j).length≤l.length:=fun j=>by
  rw [dg,f0];exact am' (yv _ _) (al1 _ _)
 refine aV.bl ai Tryz.func272 C C fun s I=>?_
 unfold bg;refine gy ?_;refine ae.ih I 3 1 0 fun I=>?_
 refine ae.b9 [0,1] C I (σ:=Nat×bQ) (fun q=>[(6,.int .i64 (q.1:Int)),(5,.aB 1 (xs q.1) q.2)]) (fun q=>[(q.2,.row 3 1 (xs q.1).length)]) (fun q=>q.1≤l.length) (fun q=>l.length-q.1) (0,.nil) (g8 _) ⟨⟨_,rfl,aO⟩,⟨_,rfl,by rw [bu];exact aU.nil hk⟩,trivial⟩ (by rw [bu];exact aI.ei _) ?_;rintro ⟨j,own⟩ aH I;simp only at aH I ⊢;refine b8 ?_;refine ae.cond C (fun aw=>?_) (fun aY=>?_);rotate_left;have aY:j=l.length:=by
  have:l.length≤j:=by simpa using aY
  omega
 ·subst aY
  have he:xs l.length=(ft n l).map bb:=by rw [dg,ae6]
  rw [he];refine ef ?_;exact Fin.cG I C aU.bc
 have aw:j<l.length:=by simpa using aw
 obtain ⟨y,ax,c7⟩:=b5 (f:=bb) aw;have ar:=dg (j+1);unfold ft at ar;rw [LL _ ax,ae1] at ar;have ar:xs (j+1)=xs j++List.map bb (if y != n then [y] else []):=by rw [ar,dg];rfl
 have lp:=fg j;unfold bb at c7;refine dL ?_;refine ae.cond C (fun au=>?_) (fun au=>?_)
 ·have au:(y != n)=true:=by simpa using au
  have ar:xs (j+1)=xs j++[.int .i64 y]:=by rw [ar,au];rfl
  have df:(xs (j+1)).length=(xs j).length+1:=by rw [ar];simp
  refine dL ?_;refine aa.gn ai I C C C C C C C er C C C C C C C C aZ hy ki ag (fun b0 I=>?_);refine gf ?_;refine bp.mk (j+1,.own b0) I aw ly (by show aI _ [(_,.row _ _ (xs (j+1)).length)] _;rw [df];exact aI.ei _) (by show l.length-(j+1)<l.length-j;omega)
 ·have au:(y != n)=false:=by simpa using au
  have ar:xs (j+1)=xs j:=by rw [ar,au];simp
  refine gr ?_;refine bp.mk (j+1,own) I aw ly (by show aI _ [(_,.row _ _ (xs (j+1)).length)] _;rw [ar];exact aI.ei _) (by show l.length-(j+1)<l.length-j;omega)
theorem LN (g:List (List Int)) (av:g.length<bB):aV d0 274 [cZ g] (.bool (mA g)):=by
 have an:=bG;refine aV.bl ai Tryz.func274 C C fun s I=>?_
 unfold cZ;unfold mA;refine b8 ?_;refine ae.cond C (fun h=>?_) (fun h=>?_)
 ·have U:decide (g.length≤16)=false:=by simp at h ⊢;omega
  rw [U];refine gT ?_;exact bA I
 have U:decide (g.length≤16)=true:=by simp at h ⊢;omega
 have n0:g.length≤16:=ai9 U;rw [U,f5];refine jG ?_;refine ae.b9 [10,11] C I (σ:=Nat) (fun j=>[(12,.int .i64 (j:Int))]) (fun _=>[]) (fun j=>j≤g.length∧oc 0 g=oc j (g.drop j)) (fun j=>g.length-j) 0 ⟨g8 _,rfl⟩ (cz C) a1 ?_;rintro j ⟨aH,aq⟩ I;refine b8 ?_;refine ae.cond C (fun aw=>?_) (fun aY=>?_);rotate_left;have aY:j=g.length:=by
  have:g.length≤j:=by simpa using aY
  omega
 ·rw [eG ag,oc] at aq
  rw [aq];refine ef ?_;exact bA I
 have aw:j<g.length:=by simpa using aw
 obtain ⟨l,ax,c7⟩:=b5 (f:=bg) aw;rw [drop_cons ax,oc] at aq;unfold bg at c7;refine bD ?_;refine ae.cond C (fun h=>?_) (fun h=>?_)
 ·have ad:decide (l.length≤3)=false:=by simp at h ⊢;omega
  rw [aq,ad];refine js ?_;exact bA I
 have ad:decide (l.length≤3)=true:=by simp at h ⊢;omega
 have n1:l.length≤3:=ai9 ad;rw [ad,f5] at aq;refine jG ?_;refine ae.b9 [3,4,10,11,12,20,21] C I (σ:=Nat) (fun k=>[(22,.int .i64 (k:Int))]) (fun _=>[]) (fun k=>k≤l.length∧mz 3 j [] l=mz 3 j (l.take k) (l.drop k)) (fun k=>l.length-k) 0 ⟨g8 _,rfl⟩ (cz C) a1 ?_;rintro k ⟨aA,bf⟩ I;refine b8 ?_;refine ae.cond C (fun cl=>?_) (fun dd=>?_);rotate_left
 ·have dd:l.length≤k:=by simpa using dd
  rw [eG dd,mz] at bf;rw [bf,f5] at aq;refine bD ?_;refine bp.mk (j+1) I ⟨aw,aq⟩ ck a1 wG
 have cl:k<l.length:=by simpa using cl
 obtain ⟨c,aF,m2⟩:=b5 (f:=bb) cl;rw [drop_cons aF,mz] at bf;rw [bf] at aq;unfold bb at m2;have w:ad5 .i64 (3+(j:Int))=3+(j:Int):=ee ag ag;refine dL ?_;by_cases aj:c<3
 ·rw [H1 (show ¬ c≥3 by omega),f6,f6] at aq
  refine aa.dy 29 C (g7 aj) ?_;refine e8 ?_;rw [aq];exact bA I
 rw [g7 (show c≥3 by omega),f5] at aq bf;refine aa.da 29 C (H1 aj) ?_;refine ep ?_;by_cases a':c≥3+(j:Int)
 ·rw [H1 (show ¬ c<3+(j:Int) by omega),f6] at aq
  refine aa.dy 35 C (by rw [w];exact g7 a') ?_;refine e8 ?_;rw [aq];exact bA I
 rw [g7 (show c<3+(j:Int) by omega),f5] at aq bf;refine aa.da 35 C (by rw [w];exact H1 a') ?_;have h8:=yw (l.take k) c (by have:=al1 k l;omega);unfold bg at h8;rw [ap7] at h8;refine ep ?_;refine aa.slice ai 0 k C C C C C C C C (.inr C) (.inl ⟨rfl,rfl⟩) (.inr ⟨_,_,rfl,rfl⟩) (.inl ⟨rfl,rfl⟩) (g8 _) (by simpa using aA) ?_;rw [al7];refine ep ?_;refine aa.eb C C C C C h8 ?_;cases bz:(l.take k).contains c with
 | true=>
  rw [bz,aj',f6] at aq;refine e8 ?_;rw [aq];exact bA I
 | false=>
  rw [bz,aj3,f5,← hZ aF] at aq bf;refine bD ?_;exact bp.mk (k+1) I ⟨cl,by rw [bf]⟩ ck a1 (by show l.length-(k+1)<l.length-k;omega)
theorem UJ (g:List (List Int)) (av:g.length<bB):aV d0 180 [cZ g] (.bool (mA g)):=by
 have an:=bG;refine aV.bl ai Tryz.func180 C C fun s I=>?_
 unfold cZ;unfold mA;refine b8 ?_;refine ae.cond C (fun h=>?_) (fun h=>?_)
 ·have U:decide (g.length≤16)=false:=by simp at h ⊢;omega
  rw [U];refine gT ?_;exact bA I
 have U:decide (g.length≤16)=true:=by simp at h ⊢;omega
 have n0:g.length≤16:=ai9 U;rw [U,f5];refine jG ?_;refine ae.b9 [0] C I (σ:=Nat) (fun j=>[(3,.int .i64 (j:Int))]) (fun _=>[]) (fun j=>j≤g.length∧oc 0 g=oc j (g.drop j)) (fun j=>g.length-j) 0 ⟨g8 _,rfl⟩ (cz C) a1 ?_;rintro j ⟨aH,aq⟩ I;refine b8 ?_;refine ae.cond C (fun aw=>?_) (fun aY=>?_);rotate_left;have aY:j=g.length:=by
  have:g.length≤j:=by simpa using aY
  omega
 ·rw [eG ag,oc] at aq
  rw [aq];refine ef ?_;exact bA I
 have aw:j<g.length:=by simpa using aw
 obtain ⟨l,ax,c7⟩:=b5 (f:=bg) aw;rw [drop_cons ax,oc] at aq;unfold bg at c7;refine dL ?_;refine ae.cond C (fun h=>?_) (fun h=>?_)
 ·have ad:decide (l.length≤3)=false:=by simp at h ⊢;omega
  rw [aq,ad];refine js ?_;exact bA I
 have ad:decide (l.length≤3)=true:=by simp at h ⊢;omega
 have n1:l.length≤3:=ai9 ad;rw [ad,f5] at aq;refine jG ?_;refine ae.b9 [0,3] C I (σ:=Nat) (fun k=>[(4,.int .i64 (k:Int))]) (fun _=>[]) (fun k=>k≤l.length∧mz 3 j [] l=mz 3 j (l.take k) (l.drop k)) (fun k=>l.length-k) 0 ⟨g8 _,rfl⟩ (cz C) a1 ?_;rintro k ⟨aA,bf⟩ I;refine dL ?_;refine ae.cond C (fun cl=>?_) (fun dd=>?_);rotate_left
 ·have dd:l.length≤k:=by simpa using dd
  rw [eG dd,mz] at bf;rw [bf,f5] at aq;refine bD ?_;refine bp.mk (j+1) I ⟨aw,aq⟩ ck a1 wG
 have cl:k<l.length:=by simpa using cl
 obtain ⟨c,aF,m2⟩:=b5 (f:=bb) cl;rw [drop_cons aF,mz] at bf;rw [bf] at aq;have h8:=LK (l.take k) c (by have:=al1 k l;omega);unfold bg at h8;rw [ap7] at h8;unfold bb at m2;have w:ad5 .i64 (3+(j:Int))=3+(j:Int):=ee ag ag;refine jG ?_;refine ae.qT ai mixed C (bd.runs (is:=[0,1,4]) C ?_);refine bd.idx 2 j C C C C C C C C C C C C C c7 C ?_;refine bd.runs (is:=[3]) C ?_;refine bd.idx 5 k C C C C C C C C C C C C C m2 C ?_;refine bd.runs (is:=[6,7,8]) C ?_;by_cases aj:c<3
 ·rw [H1 (show ¬ c≥3 by omega),f6,f6] at aq
  refine bd.dy 37 C (g7 aj) ?_;refine bd.run C (bd.done C ?_);refine e8 ?_;rw [aq];exact bA I
 rw [g7 (show c≥3 by omega),f5] at aq bf;refine bd.da 37 C (H1 aj) ?_;refine bd.runs (is:=[9,10,13,16,17]) C ?_;refine bd.idx 11 j C C C C C C C C C C C C C c7 C ?_;refine bd.runs (is:=[12]) C ?_;refine bd.idx 14 k C C C C C C C C C C C C C m2 C ?_;refine bd.runs (is:=[15,18,19,20]) C ?_;by_cases a':c≥3+(j:Int)
 ·rw [H1 (show ¬ c<3+(j:Int) by omega),f6] at aq
  refine bd.dy 49 C (by rw [w];exact g7 a') ?_;refine bd.run C (bd.done C ?_);refine e8 ?_;rw [aq];exact bA I
 rw [g7 (show c<3+(j:Int) by omega),f5] at aq bf;refine bd.da 49 C (by rw [w];exact H1 a') ?_;refine bd.run C ?_;refine bd.idx 23 j C C C C C C C C C C C C C c7 C ?_;refine bd.idx 29 j C C C C C C C C C C C C C c7 C ?_;refine bd.run C ?_;refine bd.idx 32 k C C C C C C C C C C C C C m2 C ?_;refine bd.slice 26 0 k C C C C C C C C C C (.inr C) (.inl ⟨rfl,rfl⟩) (.inr ⟨_,_,rfl,rfl⟩) (.inl ⟨rfl,rfl⟩) (g8 _) (by simpa using aA) ?_;rw [al7];refine bd.run C ?_;refine bd.Dj (i:=34) C C C C C C C h8 ?_;refine bd.run C ?_;refine bd.done C ?_;cases bz:(l.take k).contains c with
 | true=>
  rw [bz,aj',f6] at aq;refine e8 ?_;rw [aq];exact bA I
 | false=>
  rw [bz,aj3,f5,← hZ aF] at aq bf;refine bD ?_;exact bp.mk (k+1) I ⟨cl,by rw [bf]⟩ ck a1 (by show l.length-(k+1)<l.length-k;omega)
theorem UK (all:List (List Int)) (c:Int) (aE:all.length<bB) (aR:∀ l∈all,l.length<bB):aV d0 273 [cZ all,.int .i64 c] (.bool (free all c)):=by
 have an:=bG;refine aV.bl ai Tryz.func273 C C fun s I=>?_
 unfold cZ;refine gy ?_;refine ae.b9 [0,1] C I (σ:=Nat) (fun j=>[(5,.int .i64 (j:Int))]) (fun _=>[]) (fun j=>j≤all.length∧free all c=free (all.drop j) c) (fun j=>all.length-j) 0 ⟨g8 _,rfl⟩ (cz C) a1 ?_;rintro j ⟨aH,aq⟩ I;refine b8 ?_;refine ae.cond C (fun aw=>?_) (fun aY=>?_);rotate_left;have aY:j=all.length:=by
  have:all.length≤j:=by simpa using aY
  omega
 ·rw [eG ag] at aq
  rw [aq];refine ef ?_;exact bA I
 have aw:j<all.length:=by simpa using aw
 obtain ⟨l,ax,c7⟩:=b5 (f:=bg) aw;rw [drop_cons ax] at aq;have mB:=aR l (d6 ax);have aq:free all c=(!(l.drop 1).contains c&&free (all.drop (j+1)) c):=aq;have h8:=LK (l.drop 1) c cP;unfold bg at h8 c7;rw [List.map_drop] at h8;refine dL ?_;cases l with
 | nil=>
  refine aa.da 18 C C ?_;refine bD ?_;refine bp.mk (j+1) I ⟨aw,aq⟩ ck a1 (by show all.length-(j+1)<all.length-j;omega)
 | cons x r=>
  refine aa.dy 18 C ba ?_;refine dL ?_;refine aa.slice ai 1 ((x::r).map bb).length C C C C C C C C (.inr C) (.inr ⟨_,_,rfl,rfl⟩) (.inl ⟨rfl,rfl,rfl⟩) (.inl ⟨rfl,rfl⟩) ba (g9 _) ?_;rw [ae6];refine ep ?_;refine aa.eb C C C C C h8 ?_;cases bz:((x::r).drop 1).contains c with
  | true=>
   rw [bz,aj',f6] at aq;rw [aq];refine e8 ?_;exact bA I
  | false=>
   rw [bz,aj3,f5] at aq;refine bD ?_;refine bp.mk (j+1) I ⟨aw,aq⟩ ck a1 (by show all.length-(j+1)<all.length-j;omega)
structure q4 (n b:Nat) (all:List (List Int)):Prop where
 len:all.length≤n
 each:∀ l∈all,l.length≤b∧∀ c∈l,0≤c
theorem q4.ft {n b:Nat} {all:List (List Int)} (h:q4 n b all) (c:Int):q4 n b (all.map (ft c)):=by
 refine ⟨by rw [f0];exact h.len,fun l aE=>?_⟩;obtain ⟨lv,U,rfl⟩:=ag0.1 aE;obtain ⟨ad,aj⟩:=h.each lv U;exact ⟨am' (yv _ _) ad,fun c aF=>aj c (ae3.1 aF).1⟩
theorem Dy {n b:Nat} {all:List (List Int)} (h:q4 n b all):total all≤n*b:=by
 obtain ⟨U,ad⟩:=h;have:total all≤all.length*b:=by
  clear U
  induction all with
  | nil=>simp [total]
  | cons l r aX=>
   have aj:=(ad l i8).1;have a':=aX (fun x ab=>ad x (i6 _ ab));have bz:total (l::r)=l.length+total r:=rfl;rw [bz,i0,Nat.add_mul];omega
 exact am' this (am8 _ U)
theorem LO {all l:List (List Int)} {j:Nat} (h:l[j]? = some []):pick all (l.drop j)=pick all (l.drop (j+1)):=by
 rw [drop_cons h];rfl
theorem LP {all l:List (List Int)} {j:Nat} {c:Int} {r:List Int} (h:l[j]? = some (c::r)):pick all (l.drop j)=if free all c then some c else pick all (l.drop (j+1)):=by
 rw [drop_cons h];rfl
theorem UL (n b:Nat) (i':n<1000∧b<1000) (all:List (List Int)) (hm:q4 n b all):aV d0 252 [cZ all] (.cu [bg (merged all).1,.bool (merged all).2]):=by
 have an:=bG;refine aV.bl ai Tryz.func252 C C fun s I=>?_
 unfold cZ;have yy:total all≤n*b:=Dy hm;have UM:n*b≤1000*1000:=Nat.mul_le_mul ag ag;refine gy ?_;refine ae.ih I 3 1 0 fun I=>?_
 refine ae.b9 [] C I (σ:=Nat×List (List Int)×List Int×bQ) (fun q=>[(0,.aB 1 (q.2.1.map bg) .bc),(4,.aB 1 (q.2.2.1.map bb) q.2.2.2)]) (fun q=>[(q.2.2.2,.row 3 1 q.2.2.1.length)])
  (fun q=>merge q.1 q.2.1 q.2.2.1=merged all∧total q.2.1<q.1∧q4 n b q.2.1∧q.2.2.1.length+total q.2.1≤total all) (fun q=>q.1) (total all+1,all,[],.nil) ⟨rfl,Nat.lt_succ_self _,hm,by simp⟩ ⟨⟨_,rfl,aO⟩,⟨_,rfl,aU.nil hk⟩,trivial⟩ (aI.ei _) ?_
 rintro ⟨k,cur,acc,own⟩ ⟨dB,hl,hm,uI⟩ I;simp only at dB hl hm uI I ⊢;have cj:=hm.len;refine gy ?_;refine ae.b9 [0,4] C I (σ:=Nat×Int×Bool) (fun z=>[(5,.int .i64 z.2.1),(6,.bool z.2.2),(7,.int .i64 (z.1:Int))]) (fun _=>[(own,.row 3 1 acc.length)])
  (fun z=>z.1≤cur.length∧((z.2.1 = -1∧pick cur cur=pick cur (cur.drop z.1)∧(!z.2.2)=(cur.take z.1).all aq2)∨(0≤z.2.1∧pick cur cur=some z.2.1))) (fun z=>cur.length-z.1+if z.2.1<0 then 1 else 0) (0,-1,false) ⟨g8 _,.inl ⟨rfl,rfl,rfl⟩⟩ (cz C) (aI.ei _) ?_
 rintro ⟨j,gw,GS⟩ ⟨aH,aq⟩ I;simp only at aH aq I ⊢;refine kB ?_;by_cases aw:j<cur.length
 ·refine aa.dy 14 C (by simpa using aw) ?_
  refine fK ?_;refine ae.cond C (fun az=>?_) (fun az=>?_)
  ·have az:gw<0:=ai9 az
   obtain ⟨rfl,aq,iB⟩:gw = -1∧_:=by
    rcases aq with h|h
    ·exact h
    ·omega
   obtain ⟨l,ax,c7⟩:=b5 (f:=bg) aw;have LQ:=hm.each l (d6 ax);have Gl:=fun c=>UK cur c ag (fun l aE=>by have:=(hm.each l aE).1;omega)
   unfold cZ at Gl;unfold bg at c7;have AI:(cur.take (j+1)).all aq2=((cur.take j).all aq2&&l.isEmpty):=by rw [hZ ax,List.all_append];simp
   refine dL ?_;cases l with
   | nil=>
    rw [LO ax] at aq;refine ae.gF C ?_;refine gr ?_;exact bp.mk (j+1,-1,GS) I ⟨aw,.inl ⟨rfl,aq,by rw [AI,← iB];simp⟩⟩ ck (aI.ei _) (by show cur.length-(j+1)+1<cur.length-j+1;omega)
   | cons c r=>
    rw [LP ax] at aq;refine ae.cond C (fun _=>?_) (fun h=>absurd h ba);have LR:((c::r).map bb)[0]? = some (.int .i64 c):=rfl;refine bD ?_;refine aa.eb C C C C C (Gl c) ?_;cases pQ:free cur c with
    | true=>
     rw [pQ,g6 C] at aq;have CD:=LQ.2 c i8;refine bD ?_;exact bp.mk (j+1,c,true) I ⟨aw,.inr ⟨CD,aq⟩⟩ ck (aI.ei _) (by show cur.length-(j+1)+(if c<0 then 1 else 0)<cur.length-j+1;split<;>omega)
    | false=>
     rw [pQ,d9 ba] at aq;refine bD ?_;exact bp.mk (j+1,-1,true) I ⟨aw,.inl ⟨rfl,aq,by rw [AI];simp⟩⟩ ck (aI.ei _) (by show cur.length-(j+1)+1<cur.length-j+1;omega)
  ·have az:¬ gw<0:=of_decide_eq_false az
   obtain ⟨yz,wN⟩:0≤gw∧pick cur cur=some gw:=by
    rcases aq with h|h
    ·omega
    ·exact h
   have kD:¬ gw<0:=by omega
   refine ef ?_;refine ae.cond C (fun h=>absurd (ai9 h) kD) (fun _=>?_);cases k with
   | zero=>omega
   | succ k=>
   have LS:=Dx (uR wN);rw [merge,wN] at dB;simp only at dB;refine dL ?_;refine aa.gn ai I C C C C C C C er C C C C C C C C aZ hy ki ag (fun b0 I=>?_);refine bD ?_;obtain ⟨xs,dg⟩:∃ xs:Nat→List af,∀ j,xs j=((cur.take j).map (ft gw)).map bg:=⟨_,fun _=>rfl⟩;have bu:xs 0=[]:=by rw [dg];rfl
   have fg:∀ j,(xs j).length≤cur.length:=fun j=>by
    rw [dg,f0,f0];exact al1 _ _
   refine ae.ih I 23 1 0 fun I=>?_
   refine ae.b9 [0,4,5] C I (σ:=Nat×bQ) (fun q=>[(9,.int .i64 (q.1:Int)),(8,.aB 1 (xs q.1) q.2)]) (fun q=>[(q.2,.row 23 1 (xs q.1).length),(.own b0,.row 3 1 (acc.length+1))]) (fun q=>q.1≤cur.length) (fun q=>cur.length-q.1) (0,.nil) (g8 _) ⟨⟨_,rfl,aO⟩,⟨_,rfl,by rw [bu];exact aU.nil hk⟩,trivial⟩ GC ?_;rintro ⟨i,uT⟩ aN I;simp only at aN I ⊢;refine b8 ?_;refine ae.cond C (fun jW=>?_) (fun kE=>?_)
   ·have jW:i<cur.length:=by simpa using jW
    obtain ⟨l,ax,c7⟩:=b5 (f:=bg) jW;have ar:=dg (i+1);rw [hZ ax,ae1,ae1,← dg] at ar;have ar:xs (i+1)=xs i++[.aB 1 ((ft gw l).map bb) .bc]:=ar;have df:(xs (i+1)).length=(xs i).length+1:=by rw [ar];simp
    have lp:=fg i;have hw:=GR l gw (by have:=(hm.each l (d6 ax)).1;omega);unfold bg at c7 hw;refine dL ?_;refine aa.eb C C C C C hw ?_;refine ep ?_;refine aa.gn ai I C C C C C C C er C C C C C C C C aZ hy pZ ag (fun eQ I=>?_);refine gf ?_;exact bp.mk (i+1,.own eQ) I jW ly (by show aI _ [(_,.row _ _ (xs (i+1)).length),_] _;rw [df];exact aI.ei _) GG
   ·have kE:i=cur.length:=by
     have:cur.length≤i:=by simpa using kE
     omega
    subst kE;have he:xs cur.length=(cur.map (ft gw)).map bg:=by rw [dg,ae6]
    rw [he] at I ⊢;refine bD ?_;exact bp.mk (k,cur.map (ft gw),acc++[gw],.own b0) I ⟨dB,by show total (cur.map (ft gw))<k;omega,hm.ft gw,by show (acc++[gw]).length+total (cur.map (ft gw))≤total all;rw [f8,ag'];omega⟩ ⟨⟨_,rfl,aU.bc⟩,⟨_,rfl,aU.of_eq (by simp [bb])⟩,trivial⟩ (by show aI _ [(_,.row _ _ (acc++[gw]).length)] _;rw [f8,ag'];exact (aI.ei _).there) (by show k<k+1;omega)
 ·refine aa.da 14 C (by simpa using aw) ?_
  have aY:j=cur.length:=by omega
  rcases aq with ⟨rfl,aq,iB⟩|⟨yz,wN⟩
  ·rw [eG ag] at aq
   rw [aY,ae6] at iB;cases k with
   | zero=>omega
   | succ k=>
    rw [merge,aq] at dB;have dB:(acc,cur.all aq2)=merged all:=dB;rw [← dB,← iB];refine bD ?_;exact Fin.cG I C (aU.cu (.cons aU.bc (.one aO)))
  ·have kD:¬ gw<0:=by omega
   refine bD ?_;refine ae.cond C (fun h=>absurd (ai9 h) kD) (fun _=>?_);cases k with
   | zero=>omega
   | succ k=>
   have LS:=Dx (uR wN);rw [merge,wN] at dB;simp only at dB;refine dL ?_;refine aa.gn ai I C C C C C C C er C C C C C C C C aZ hy ki ag (fun b0 I=>?_);refine bD ?_;obtain ⟨xs,dg⟩:∃ xs:Nat→List af,∀ j,xs j=((cur.take j).map (ft gw)).map bg:=⟨_,fun _=>rfl⟩;have bu:xs 0=[]:=by rw [dg];rfl
   have fg:∀ j,(xs j).length≤cur.length:=fun j=>by
    rw [dg,f0,f0];exact al1 _ _
   refine ae.ih I 23 1 0 fun I=>?_
   refine ae.b9 [0,4,5] C I (σ:=Nat×bQ) (fun q=>[(9,.int .i64 (q.1:Int)),(8,.aB 1 (xs q.1) q.2)]) (fun q=>[(q.2,.row 23 1 (xs q.1).length),(.own b0,.row 3 1 (acc.length+1))]) (fun q=>q.1≤cur.length) (fun q=>cur.length-q.1) (0,.nil) (g8 _) ⟨⟨_,rfl,aO⟩,⟨_,rfl,by rw [bu];exact aU.nil hk⟩,trivial⟩ GC ?_;rintro ⟨i,uT⟩ aN I;simp only at aN I ⊢;refine b8 ?_;refine ae.cond C (fun jW=>?_) (fun kE=>?_)
   ·have jW:i<cur.length:=by simpa using jW
    obtain ⟨l,ax,c7⟩:=b5 (f:=bg) jW;have ar:=dg (i+1);rw [hZ ax,ae1,ae1,← dg] at ar;have ar:xs (i+1)=xs i++[.aB 1 ((ft gw l).map bb) .bc]:=ar;have df:(xs (i+1)).length=(xs i).length+1:=by rw [ar];simp
    have lp:=fg i;have hw:=GR l gw (by have:=(hm.each l (d6 ax)).1;omega);unfold bg at c7 hw;refine dL ?_;refine aa.eb C C C C C hw ?_;refine ep ?_;refine aa.gn ai I C C C C C C C er C C C C C C C C aZ hy pZ ag (fun eQ I=>?_);refine gf ?_;exact bp.mk (i+1,.own eQ) I jW ly (by show aI _ [(_,.row _ _ (xs (i+1)).length),_] _;rw [df];exact aI.ei _) GG
   ·have kE:i=cur.length:=by
     have:cur.length≤i:=by simpa using kE
     omega
    subst kE;have he:xs cur.length=(cur.map (ft gw)).map bg:=by rw [dg,ae6]
    rw [he] at I ⊢;refine bD ?_;exact bp.mk (k,cur.map (ft gw),acc++[gw],.own b0) I ⟨dB,by show total (cur.map (ft gw))<k;omega,hm.ft gw,by show (acc++[gw]).length+total (cur.map (ft gw))≤total all;rw [f8,ag'];omega⟩ ⟨⟨_,rfl,aU.bc⟩,⟨_,rfl,aU.of_eq (by simp [bb])⟩,trivial⟩ (by show aI _ [(_,.row _ _ (acc++[gw]).length)] _;rw [f8,ag'];exact (aI.ei _).there) (by show k<k+1;omega)
structure r7 (g:List (List Int)):Prop where
 len:g.length≤16
 par:∀ (i:Nat) (l:List Int),g[i]? = some l→l.length≤3∧∀ c∈l,3≤c∧c<3+(i:Int)
theorem LU {f i:Int}:∀ {l seen:List Int},mz f i seen l=true→∀ c∈l,f≤c∧c<f+i
  | [],_,_,c,aF=>by cases aF
  | d::r,seen,h,c,aF=>by
    rw [mz] at h;simp only [f9,i7] at h;rcases af1.1 aF with rfl|aF
    · exact ⟨h.1,h.2.1⟩
    · exact LU h.2.2.2 c aF
theorem LV:∀ {g:List (List Int)} {k:Nat},oc k g=true→∀ i l,g[i]? = some l→l.length≤3∧∀ c∈l,3≤c∧c<3+((k+i:Nat):Int)
  | [],_,_,i,l,aE=>by simp at aE
  | x::r,k,h,i,l,aE=>by
    rw [oc] at h;simp only [f9,i7] at h;cases i with
    | zero=>
      cases aE;exact ⟨h.1,fun c aF=>by have:=LU h.2.1 c aF;omega⟩
    | succ i=>
      have:=LV h.2.2 i l aE;rw [show k+1+i=k+(i+1) by omega] at this;exact this
theorem AJ {g:List (List Int)} (h:mA g=true):r7 g:=by
 unfold mA at h;simp only [f9,i7] at h;refine ⟨h.1,fun i l aE=>?_⟩;have:=LV h.2 i l aE;simpa using this
theorem r7.parents {g:List (List Int)} (h:r7 g) (c:Nat):(parents g c).length≤3∧∀ p∈parents g c,3≤p∧p<(c:Int):=by
 unfold Go.Proofs.YtnafpeohfbglmaaGreat.parents;by_cases aF:c<3
 ·rw [g6 aF];exact ⟨by simp,fun p aD=>by cases aD⟩
 ·rw [d9 aF,d5]
  cases aE:g[c-3]? with
  | none=>exact ⟨by simp,fun p aD=>by simp at aD⟩
  | some l=>
   obtain ⟨U,ad⟩:=h.par _ _ aE;exact ⟨U,fun p aD=>by have:=ad p aD;omega⟩
structure adg (n:Nat) (l:List Int):Prop where
 len:l.length≤n
 pos:∀ c∈l,0≤c
theorem GU:∀ (k:Nat) (all:List (List Int)) (acc:List Int),(merge k all acc).1.length≤acc.length+total all
  | 0,_,acc=>by rw [merge];exact aA' _ _
  | k+1,all,acc=>by
    rw [merge];cases aD:pick all all with
    | none=>exact aA' _ _
    | some d=>
      simp only;have U:=GU k (all.map (ft d)) (acc++[d]);have ad:=Dx (uR aD);rw [f8,ag'] at U;omega
theorem UN (g:List (List Int)) (av:g.length<bB) (c:Nat) (aF:c<3+g.length):aV d0 271 [cZ g,.int .i64 (c:Int)] (bg (parents g c)):=by
 have an:=bG;refine aV.bl ai Tryz.func271 C C fun s I=>?_
 unfold cZ parents;refine b8 ?_;refine ae.cond C (fun h=>?_) (fun h=>?_)
 ·have h:c<3:=by have:=ai9 h;omega
  rw [g6 h];refine gT ?_;exact Fin.cG I C (aU.nil hk)
 ·have h:¬ c<3:=by have:=of_decide_eq_false h;omega
  obtain ⟨l,ax,c7⟩:=b5 (f:=bg) (l:=g) (j:=c-3) ag;rw [d9 h,d5,ax];unfold bg at c7;refine dL ?_;refine aa.idx ai (c-3) C C C C C C C C C C GF c7 C ?_;refine eA ?_;exact bA I
theorem LW {o:List (List Int)}:∀ {l:List Int} {r:List (List Int)},iP o l=some r→r.length=l.length
  | [],r,h=>by cases h;rfl
  | p::q,r,h=>by
    rw [iP] at h;split at h
    · cases h
    · cases bk:iP o q with
      | none=>rw [bk] at h;cases h
      | some t=>
        rw [bk] at h;cases h;rw [i0,LW bk,i0]
def pre (x:Option (List (List Int))) (a:List (List Int)):Option (List (List Int)):=x.map fun l=>a++l
theorem LX (x:Option (List (List Int))):pre x []=x:=by cases x<;>rfl
theorem LY (o:List (List Int)) (a:List (List Int)) (p:Int) (q:List Int):pre (iP o (p::q)) a=if (o.getD p.toNat []).isEmpty then none else pre (iP o q) (a++[ft 0 (o.getD p.toNat [])]):=by
 unfold pre;rw [iP];split
 ·rfl
 ·cases iP o q<;>simp
def uU:Option (List (List Int))→af
 | some l => .cu [cZ l,.bool true]
 | none => .cu [cZ [],.bool false]
theorem UO (g:List (List Int)) (av:r7 g) (o:List (List Int)) (c:Nat) (aF:c<3+g.length) (ah:c≤o.length) (gz:o.length<100) (AK:∀ l∈o,l.length<1000) :
  aV d0 251 [cZ g,cZ o,.int .i64 (c:Int)] (uU (lists g o c)):=by
 have an:=bG;have jX:=av.len;have aD:=UN g ag c aF;obtain ⟨r8,o8⟩:=av.parents c;unfold lists;generalize parents g c=l at aD r8 o8 ⊢;refine aV.bl ai Tryz.func251 C C fun s I=>?_
 unfold cZ at aD ⊢;unfold bg at aD;refine dF ?_;refine aa.eb C C C C C aD ?_;refine bD ?_;refine ae.ih I 23 1 0 fun I=>?_
 refine ae.b9 [1,9] C I (σ:=Nat×List (List Int)×bQ) (fun q=>[(10,.int .i64 (q.1:Int)),(8,.aB 1 (q.2.1.map bg) q.2.2)]) (fun q=>[(q.2.2,.row 23 1 q.2.1.length)]) (fun q=>q.1≤l.length∧q.2.1.length=q.1∧iP o l=pre (iP o (l.drop q.1)) q.2.1) (fun q=>l.length-q.1) (0,[],.nil) ⟨g8 _,rfl,(LX _).symm⟩ ⟨⟨_,rfl,aO⟩,⟨_,rfl,aU.nil hk⟩,trivial⟩ (aI.ei _) ?_;rintro ⟨j,acc,own⟩ ⟨aH,m3,aq⟩ I;simp only at aH m3 aq I ⊢;refine b8 ?_;refine ae.cond C (fun aw=>?_) (fun aY=>?_);rotate_left
 ·have aY:l.length≤j:=by simpa using aY
  rw [eG aY] at aq;have aq:iP o l=some (acc++[]):=aq;rw [aq,d7];have GV:uU (Option.map (fun x=>x++[l]) (some acc)) = .cu [.aB 1 (acc.map bg++[.aB 1 (l.map bb) .bc]) .bc,.bool true]:=by
   show af.cu [.aB 1 ((acc++[l]).map bg) .bc,.bool true]=_;rw [ae1];rfl
  rw [GV];refine bD ?_;refine aa.gn ai I C C C C C C C er C C C C C C C C aZ hy pZ ag (fun b0 I=>?_);refine eA ?_;exact Fin.cG I C (aU.cu (.cons aU.bc (.one aO)))
 have aw:j<l.length:=by simpa using aw
 obtain ⟨p,ax,c7⟩:=b5 (f:=bb) aw;rw [drop_cons ax,LY] at aq;obtain ⟨LZ,adh⟩:=o8 p (d6 ax);have gH:p.toNat<o.length:=by omega
 have GW:o[p.toNat]? = some (o.getD p.toNat []):=by rw [d5,f7 gH];rfl
 have jb:=AK _ (d6 GW);have Dz:(o.map bg)[p.toNat]? = some (bg (o.getD p.toNat [])):=by rw [af3,GW];rfl
 generalize o.getD p.toNat []=ol at aq GW jb Dz;have AL:p=(p.toNat:Int):=by omega
 have hw:=GR ol 0 ag;unfold bb at c7;unfold bg at Dz hw;refine dL ?_;refine aa.idx ai p.toNat C C C C C C C C C C AL Dz C ?_;refine fK ?_;cases ol with
 | nil=>
  have aq:iP o l=none:=aq;rw [aq];refine ae.fH C ?_;refine js ?_;exact Fin.cG I C (aU.cu (.cons (aU.nil hk) (.one aO)))
 | cons x r=>
  refine ae.cond C (fun h=>absurd h cP) (fun _=>?_);refine dL ?_;refine aa.idx ai p.toNat C C C C C C C C C C AL Dz C ?_;refine ep ?_;refine aa.eb C C C C C hw ?_;refine ep ?_;refine aa.gn ai I C C C C C C C er C C C C C C C C aZ hy pZ ag (fun b0 I=>?_);refine gf ?_;exact bp.mk (j+1,acc++[ft 0 (x::r)],.own b0) I ⟨aw,by rw [f8,m3];rfl,aq⟩ Av (by show aI _ [(_,.row _ _ (acc++[ft 0 (x::r)]).length)] _;rw [f8,ag'];exact aI.ei _) (by show l.length-(j+1)<l.length-j;omega)
theorem ae.AM {P:Program} {N:Nat} {Q:b6→Env→al→Prop} {env:Env} {s:al} {c:Code} {L:a8} (I:Ok s L) (e:TypeId) (sz n:Nat) (h:Ok s ((.clip,.row e sz n)::L)→ae P N c Q env (aS s ((.clip,.row e sz n)::L))):ae P N c Q env (aS s L):=h ⟨trivial,I⟩
theorem aa.AM {P:Program} {N:Nat} {ops:Array Oper} {Q:b6→Env→al→Prop} {env:Env} {s:al} {l:List Oper} {L:a8} (I:Ok s L) (e:TypeId) (sz n:Nat) (h:Ok s ((.clip,.row e sz n)::L)→aa P N ops l Q env (aS s ((.clip,.row e sz n)::L))):aa P N ops l Q env (aS s L):=h ⟨trivial,I⟩
theorem GX:∀ (n:Nat) (l:List Int),l.Nodup→(∀ c∈l,0≤c∧c<(n:Int))→l.length≤n
  | 0,[],_,_=>g9 _
  | 0,c::r,_,h=>by have:=h c i8;omega
  | n+1,l,ay,h=>by
    by_cases hm:(n:Int)∈l
    · have U:=GX n (l.erase (n:Int)) (ay.erase _) (fun c aF=>by
        obtain ⟨ad,aj⟩:=ay.mem_erase_iff.1 aF
        have:=h c aj
        omega)
      rw [List.length_erase_of_mem hm] at U;omega
    · have:=GX n l ay (fun c aF=>by
        have U:=h c aF
        have:c≠(n:Int):=fun e=>hm (e ▸ aF)
        omega)
      omega
theorem L0:∀ (k:Nat) (all:List (List Int)) (acc:List Int),acc.Nodup→(∀ c∈acc,∀ l∈all,c∉l)→(merge k all acc).1.Nodup
  | 0,_,_,h,_=>h
  | k+1,all,acc,h,ay=>by
    rw [merge];cases aD:pick all all with
    | none=>exact h
    | some d=>
      simp only;obtain ⟨t,aL⟩:=uR aD;refine L0 k _ _ ?_ ?_
      · rw [List.nodup_append]
        exact ⟨h,by simp,fun a aR b an=>by
          rw [t6] at an;subst an
          intro e;subst e
          exact ay a aR _ aL i8⟩
      · intro c aF l aE
        obtain ⟨lv,U,rfl⟩:=ag0.1 aE;unfold ft;rw [ae3];rintro ⟨ad,aj⟩;rcases ae4.1 aF with aF|aF
        · exact ay c aF lv U ad
        · rw [t6] at aF;subst aF;simp at aj
theorem L1 {q:Int→Prop}:∀ (k:Nat) (all:List (List Int)) (acc:List Int),(∀ l∈all,∀ c∈l,q c)→(∀ c∈acc,q c)→∀ c∈(merge k all acc).1,q c
  | 0,_,acc,_,h=>h
  | k+1,all,acc,aR,h=>by
    rw [merge];cases aD:pick all all with
    | none=>exact h
    | some d=>
      simp only;refine L1 k _ _ (fun l aE c aF=>?_) (fun c aF=>?_)
      · obtain ⟨lv,U,rfl⟩:=ag0.1 aE
        exact aR lv U c (ae3.1 aF).1
      · rcases ae4.1 aF with aF|aF
        · exact h c aF
        · rw [t6] at aF;subst aF
          obtain ⟨t,aL⟩:=uR aD;exact aR _ aL c i8
theorem GY {q:Int→Prop} {o:List (List Int)} (ah:∀ l∈o,∀ c∈l,q c):∀ {l:List Int} {r:List (List Int)},iP o l=some r→∀ x∈r,∀ c∈x,q c
  | [],r,h,x,ab=>by cases h;cases ab
  | p::t,r,h,x,ab=>by
    rw [iP] at h;split at h
    · cases h
    · cases bk:iP o t with
      | none=>rw [bk] at h;cases h
      | some s=>
        rw [bk] at h;cases h;rcases af1.1 ab with rfl|ab
        · intro c aF
          have aF:=(ae3.1 aF).1;rw [d5] at aF;cases aE:o[p.toNat]? with
          | none=>rw [aE] at aF;cases aF
          | some l=>rw [aE] at aF;exact ah l (d6 aE) c aF
        · exact GY ah bk x ab
structure GZ (n:Nat) (o:List (List Int)):Prop where
 len:∀ l∈o,l.length≤n+2
 G0:∀ l∈o,∀ c∈l,0≤c∧c<(n:Int)
theorem UP {g:List (List Int)} (av:r7 g) {o:List (List Int)} {c:Nat} (aF:c<3+g.length) (ah:GZ (3+g.length) o):(order g o c).length≤3+g.length+2∧∀ x∈order g o c,0≤x∧x<((3+g.length:Nat):Int):=by
 unfold order;cases aE:lists g o c with
 | none=>exact ⟨by simp,fun x ab=>by cases ab⟩
 | some all=>
  simp only;split
  ·have aD:=av.parents c
   have fJ:∀ l∈all,∀ c∈l,0≤c∧c<((3+g.length:Nat):Int):=by
    unfold lists at aE;cases bk:iP o (parents g c) with
    | none=>rw [bk] at aE;cases aE
    | some r=>
     rw [bk] at aE;cases aE;intro l aE x ab;rcases ae4.1 aE with aE|aE
     ·exact GY (q:=fun x=>0≤x∧x<((3+g.length:Nat):Int)) ah.G0 bk l aE x ab
     ·rw [t6] at aE;subst aE
      have:=aD.2 x ab;omega
   have U:∀ x∈(merged all).1,0≤x∧x<((3+g.length:Nat):Int):=L1 _ all [] fJ (fun c aF=>by cases aF);have ad:(merged all).1.Nodup:=L0 _ all [] List.nodup_nil (fun c aF=>by cases aF);have aj:=GX _ _ ad U;refine ⟨by rw [f8,i0,ag'];omega,fun x ab=>?_⟩;rcases ae4.1 ab with ab|ab
   ·rcases af1.1 ab with rfl|ab
    ·omega
    ·exact U x ab
   ·rw [t6] at ab;omega
  ·exact ⟨by simp,fun x ab=>by cases ab⟩
theorem AN {g:List (List Int)} (av:r7 g):∀ k,k<3+g.length→GZ (3+g.length) (fC g k)
  | 0,_=>⟨fun l aE=>by rw [fC,t6] at aE;subst aE;simp,fun l aE c aF=>by rw [fC,t6] at aE;subst aE;rw [t6] at aF;omega⟩
  | k+1,h=>by
    have aX:=AN av k ag;have U:=UP av h aX;rw [fC];refine ⟨fun l aE=>?_,fun l aE=>?_⟩
    · rcases ae4.1 aE with aE|aE
      · exact aX.len l aE
      · rw [t6] at aE;subst aE;exact U.1
    · rcases ae4.1 aE with aE|aE
      · exact aX.G0 l aE
      · rw [t6] at aE;subst aE;exact U.2
theorem aU.AO {sz:Nat} {xs ys:List af} {own:bQ} (h:cR xs ys):aU (.aB sz xs own) (.aB sz ys own):=fun w p v au=>by
 cases au with
 | hV _ _ ah=>cases h;exact .hV _ _ ah
 | ir a _ _ ah=>cases h;exact .ir a _ _ ah
 | aB g off n cap _ vs _ _ az aE aF aC ar hm aA cj ah=>exact .aB g off n cap _ vs _ _ az (by rw [aE];exact h.length) aF (h.rel aC) ar hm aA cj ah
theorem G1 {g:List (List Int)} (av:r7 g) {o:List (List Int)} {c:Nat} (ah:GZ (3+g.length) o) {all:List (List Int)} (h:lists g o c=some all):q4 4 21 all:=by
 have aD:=av.parents c;have jX:=av.len;unfold lists at h;cases bk:iP o (parents g c) with
 | none=>rw [bk] at h;cases h
 | some r=>
  rw [bk] at h;cases h;have aE:=LW bk;refine ⟨by rw [f8,ag'];omega,fun l aE=>?_⟩;rcases ae4.1 aE with aE|aE
  ·refine ⟨?_,fun x ab=>(GY (q:=fun x=>0≤x) (fun l aE c aF=>(ah.G0 l aE c aF).1) bk l aE x ab)⟩
   have key:∀ {l:List Int} {r:List (List Int)},iP o l=some r→∀ x∈r,x.length≤21:=by
    intro l
    induction l with
    | nil=>intro r h x ab;cases h;cases ab
    | cons p t aX=>
     intro r h x ab;rw [iP] at h;split at h
     ·cases h
     ·cases bk:iP o t with
      | none=>rw [bk] at h;cases h
      | some s=>
       rw [bk] at h;cases h;rcases af1.1 ab with rfl|ab
       ·refine am' (yv _ _) ?_
        rw [d5];cases aE:o[p.toNat]? with
        | none=>simp
        | some l=>
         have:=ah.len l (d6 aE);show l.length≤21;omega
       ·exact aX bk x ab
   exact key bk l aE
  ·rw [t6] at aE;subst aE
   exact ⟨by omega,fun x ab=>by have:=aD.2 x ab;omega⟩
theorem UQ (g:List (List Int)) (av:r7 g):aV d0 219 [cZ g] (cZ (fC g (2+g.length))):=by
 have an:=bG;have jX:=av.len;obtain ⟨xs,dg⟩:∃ xs:Nat→List af,∀ j,xs j=(fC g j).map bg:=⟨_,fun _=>rfl⟩;have bu:xs 0=[.aB 1 [.int .i64 0] .bc]:=by rw [dg];rfl
 have fg:∀ j,(xs j).length=j+1:=fun j=>by rw [dg,f0,tw]
 refine aV.bl ai Tryz.func219 C C fun s I=>?_
 unfold cZ;refine gy ?_;refine ae.AM I 23 1 1 fun I=>?_
 refine ae.b9 [0] C I (σ:=Nat×bQ) (fun q=>[(4,.int .i64 ((q.1+1:Nat):Int)),(3,.aB 1 (xs q.1) q.2)]) (fun q=>[(q.2,.row 23 1 (xs q.1).length)]) (fun q=>q.1≤2+g.length) (fun q=>2+g.length-q.1) (0,.clip) (g8 _) ⟨⟨_,rfl,aO⟩,⟨_,rfl,by rw [bu];exact aU.AO (.one aU.bc)⟩,trivial⟩ (by rw [fg];exact aI.ei _) ?_;rintro ⟨j,own⟩ aH I;simp only at aH I ⊢;have w:ad5 .i64 (3+((g.map bg).length:Int))=3+(g.length:Int):=by rw [f0,ee ag ag]
 refine b8 ?_;refine ae.cond C (fun aw=>?_) (fun aY=>?_);rotate_left
 ·have aY:j=2+g.length:=by
   rw [w] at aY;have:=of_decide_eq_false aY;omega
  subst aY;rw [← dg];refine ef ?_;exact Fin.cG I C aU.bc
 have aw:j<2+g.length:=by
  rw [w] at aw;have:=ai9 aw;omega
 have lP:=AN av j ag;have lA:=UO g av (fC g j) (j+1) ag (by rw [tw];exact g9 _) (by rw [tw];omega) (fun l aE=>by have:=lP.len l aE;omega);have ar:=dg (j+1);rw [fC,ae1,← dg] at ar;have ar:xs (j+1)=xs j++[bg (order g (fC g j) (j+1))]:=ar;have df:(xs (j+1)).length=(xs j).length+1:=by rw [ar];simp
 have lp:=fg j;unfold order at ar;have UR:cR [.aB 1 (g.map bg) .bc,.aB 1 (xs j) own,.int .i64 ((j+1:Nat):Int)] [cZ g,cZ (fC g j),.int .i64 ((j+1:Nat):Int)] := .cons aO (.cons (by unfold cZ;rw [← dg];exact aU.bc) (.one aO));have lA:=aV.args UR lA;cases aE:lists g (fC g j) (j+1) with
 | none=>
  rw [aE] at lA ar;unfold uU cZ at lA;simp only at ar;refine bD ?_;refine aa.eb C C C C C lA ?_;refine bD ?_;refine aa.gn ai I C C C C C C C er C C C C C C C C aZ hy pZ ag (fun b0 I=>?_);refine gf ?_;exact bp.mk (j+1,.own b0) I aw ⟨⟨_,rfl,aU.of_eq (by rw [iN ag])⟩,⟨_,rfl,by rw [ar];exact aU.AO (cR.last (show aU (.aB 0 [] .nil) (bg []) from aU.nil hk) _)⟩,⟨_,rfl,aO⟩,trivial⟩ GD GH
 | some all=>
  rw [aE] at lA ar;have hm:=UL 4 21 ag all (G1 av lP aE);unfold uU cZ at lA;unfold cZ bg at hm;simp only at ar;refine bD ?_;refine aa.eb C C C C C lA ?_;refine bD ?_;refine aa.eb C C C C C hm ?_;have hR:=GU (total all+1) all [];have yy:=Dy (G1 av lP aE);cases wO:(merged all).2 with
  | false=>
   rw [wO] at ar;simp only [Bool.false_eq_true,ah9] at ar;refine bD ?_;refine aa.gn ai I C C C C C C C er C C C C C C C C aZ hy pZ ag (fun b0 I=>?_);refine gf ?_;exact bp.mk (j+1,.own b0) I aw ⟨⟨_,rfl,aU.of_eq (by rw [iN ag])⟩,⟨_,rfl,by rw [ar];exact aU.AO (cR.last (show aU (.aB 0 [] .nil) (bg []) from aU.nil hk) _)⟩,⟨_,rfl,aO⟩,trivial⟩ GD GH
  | true=>
   rw [wO] at ar;simp only [ag7] at ar;have G2:(merged all).1.length≤84:=by
    have:(merged all).1.length≤0+total all:=hR;omega
   generalize (merged all).1=m at hm ar G2;have he:bg (((j+1:Nat):Int)::m++[0]) = .aB 1 ([.int .i64 ((j+1:Nat):Int)]++m.map bb++[.int .i64 0]) .bc:=by unfold bg;simp [bb]
   rw [he] at ar;refine bD ?_;refine aa.AM I 3 1 1 fun I=>?_
   refine aa.qY ai I rfl rfl rfl rfl rfl rfl rfl er rfl rfl rfl rfl (.inr rfl) rfl (fun y ax=>by obtain ⟨z,-,rfl⟩:=ag0.1 ax;rfl) C .here C (n':=m.length+1) cP cP cP (fun r9 I=>?_);refine ep ?_;refine aa.gn ai I C C C C C C C er C C C C C C C C aZ hy ki ag (fun eQ I=>?_);refine hx ?_;refine aa.gn ai I C C C C C C C er C C C C C C C C aZ hy pZ ag (fun b0 I=>?_);refine gf ?_;exact bp.mk (j+1,.own b0) I aw ⟨⟨_,rfl,aU.of_eq (by rw [iN ag])⟩,⟨_,rfl,by rw [ar];exact aU.AO (cR.last aU.bc _)⟩,⟨_,rfl,aO⟩,trivial⟩ GD GH
theorem US (g:List (List Int)) (av:r7 g) (c:Nat) (aF:c<3+g.length):aV d0 181 [cZ g,.int .i64 (c:Int)] (.cu [bg ((fC g (2+g.length)).getD c []),.bool (!((fC g (2+g.length)).getD c []).isEmpty)]):=by
 have ah:=UQ g av;have aE:=tw g (2+g.length);have cj:c<(fC g (2+g.length)).length:=by omega
 obtain ⟨l,ax,c7⟩:=b5 (f:=bg) cj;rw [d5,ax,Option.getD_some];unfold cZ at ah ⊢;unfold bg at c7;refine aV.bl ai Tryz.func181 C C fun s I=>?_
 refine dF ?_;refine aa.eb C C C C C ah ?_;refine bD ?_;refine Fin.cG I C (aU.cu (.cons aO (.one (aU.of_eq ?_))));congr 1;cases l<;>simp
inductive ao where
 | mk (op arg:Int) (path:List Int) (cls n:Int) (kids:List ao)
namespace ao
def op:ao→Int | .mk o _ _ _ _ _=>o
def arg:ao→Int | .mk _ a _ _ _ _=>a
def path:ao→List Int | .mk _ _ p _ _ _=>p
def cls:ao→Int | .mk _ _ _ c _ _=>c
def n:ao→Int | .mk _ _ _ _ n _=>n
def kids:ao→List ao | .mk _ _ _ _ _ k=>k
mutual
def size:ao→Nat
 | .mk _ _ p _ _ ks=>1+p.length+iC ks
def iC:List ao→Nat
 | []=>0
 | k::r=>k.size+iC r
end
theorem size_eq (x:ao):x.size=1+x.path.length+iC x.kids:=by cases x;rw [size];rfl
theorem iQ:∀ {l:List ao} {x:ao},x∈l→x.size≤iC l
  | k::r,x,h=>by
    rw [iC];rcases af1.1 h with rfl|h
    · omega
    · have:=iQ h;omega
theorem q5:∀ l:List ao,l.length≤iC l
 | []=>g9 _
 | k::r=>by have:=q5 r;rw [iC,i0,size_eq];omega
instance:Inhabited ao:=⟨.mk 0 0 [] 0 0 []⟩
mutual
def same:ao→ao→Bool
 | .mk o a p c n ks,.mk o' c8 bj tx n' G3=>decide (o=o')&&(decide (a=c8)&&(decide (c=tx)&&(decide (n=n')&&(p==bj&&o9 ks G3))))
def o9:List ao→List ao→Bool
 | [],[]=>true
 | x::r,y::t=>same x y&&o9 r t
 | _,_=>false
end
mutual
theorem L2:∀ (x y:ao),same x y=true↔x=y
  | .mk o a p c n ks,.mk o' c8 bj tx n' G3=>by
    rw [same];simp only [f9,i7,am7,L3 ks G3,ao.mk.injEq];constructor
    · rintro ⟨U,ad,aj,a',bz,fG⟩;exact ⟨U,ad,bz,aj,a',fG⟩
    · rintro ⟨U,ad,bz,aj,a',fG⟩;exact ⟨U,ad,aj,a',bz,fG⟩
theorem L3:∀ (x y:List ao),o9 x y=true↔x=y
  | [],[]=>by simp [o9]
  | [],y::t=>by simp [o9]
  | x::r,[]=>by simp [o9]
  | x::r,y::t=>by
    rw [o9,f9,L2 x y,L3 r t,List.cons.injEq]
end
def c0 (f:ao):Bool:=decide (f.op≥2)&&decide (f.op≤4)
def not (f:ao):ao := .mk 5 0 [] 0 0 [f]
def and (f g:ao):ao := .mk 6 0 [] 0 0 [f,g]
end ao
structure bx where
 ps:List (List Int)
 owner:List Int
structure iR where
 slot:Int
 n:Int
structure fM where
 parents:List Int
 bn:List Int
 inits:List iR
 deriving Inhabited
structure hS where
 kind:Int
 gen:Int
 fact:ao
 node:Int
 deriving Inhabited
structure iS where
 op:Int
 n:Int
 kids:List Int
 deriving Inhabited
structure bR where
 cm:List fM
 bn:Int
 dV:List Int
 methods:List hS
 nodes:List iS
 main:Int
structure eH where
 cls:Int
 bn:List (Int×Int)
 deriving Inhabited
def sa (op:Int):Nat:=if op=5 then 1 else if op=6∨op=7 then 2 else 0
def kF (n:Int):Bool:=decide (n ≥ -1000000000)&&decide (n≤1000000000)
def h9 (w:bx) (f:ao):Bool:=
 decide (f.op≥1)&&(decide (f.op≤7)&&(decide (f.kids.length=sa f.op) &&
  (if f.c0 then
   decide (f.arg≥0)&&(decide (f.arg<3)&&(decide (f.path.length≤2)&&(f.path.all (fun s=>decide (s≥0)&&decide (s<w.owner.length)) &&
    (if f.op=2 then decide (f.n=0)&&(decide (f.cls≥0)&&decide (f.cls<3+w.ps.length)) else decide (f.cls=0)&&kF f.n))))
  else decide (f.arg=0)&&(decide (f.path.length=0)&&(decide (f.cls=0)&&decide (f.n=0))))))
mutual
def e1 (w:bx) (d:Nat) (k:Int):ao→Bool×Int
 | .mk o a p c n ks=>
  if decide (k-1<0)||decide (d=0) then (false,k-1)
  else if h9 w (.mk o a p c n ks) then gV w (d-1) (k-1) ks else (false,k-1)
def gV (w:bx) (d:Nat) (k:Int):List ao→Bool×Int
 | []=>(true,k)
 | x::r=>if (e1 w d k x).1 then gV w d (e1 w d k x).2 r else (false,(e1 w d k x).2)
end
def h' (w:bx) (f:ao):Bool:=(e1 w 12 24 f).1
theorem aI.all:∀ L:a8,aI L L []
 | [] => .nil
 | (_,_)::L => .cons .here (aI.all L)
namespace ao
mutual
def bW:ao→af
 | .mk o a p c n ks => .agg [.int .i64 o,.int .i64 a,.aB 1 (p.map fun i => .int .i64 i) .bc,.int .i64 c,.int .i64 n,.aB 6 (DA ks) .bc]
def DA:List ao→List af
 | []=>[]
 | k::r=>k.bW::DA r
end
theorem L4:∀ l:List ao,DA l=l.map bW
 | []=>rfl
 | k::r=>by rw [DA,ae2,L4 r]
def cells (x:ao):List af:=[.int .i64 x.op,.int .i64 x.arg,.aB 1 (x.path.map fun i => .int .i64 i) .bc,.int .i64 x.cls,.int .i64 x.n,.aB 6 (x.kids.map bW) .bc]
theorem cp (x:ao):x.bW = .agg x.cells:=by cases x;rw [bW,L4];rfl
end ao
def fl (w:bx):List af:=[cZ w.ps,bg w.owner]
def fh (w:bx):af := .agg (fl w)
def wP (x:iR):af := .agg [.int .i64 x.slot,.int .i64 x.n]
def m4 (c:fM):List af:=[bg c.parents,bg c.bn,.aB 2 (c.inits.map wP) .bc]
def jc (c:fM):af := .agg (m4 c)
def pa (m:hS):List af:=[.int .i64 m.kind,.int .i64 m.gen,.int .i64 m.fact.op,.int .i64 m.fact.arg,.aB 1 (m.fact.path.map fun i => .int .i64 i) .bc,.int .i64 m.fact.cls,.int .i64 m.fact.n,.aB 6 (m.fact.kids.map ao.bW) .bc,.int .i64 m.node]
def nF (m:hS):af := .agg (pa m)
def k3 (x:iS):List af:=[.int .i64 x.op,.int .i64 x.n,bg x.kids]
def jd (x:iS):af := .agg (k3 x)
def c1 (p:bR):List af:=[.aB 3 (p.cm.map jc) .bc,.int .i64 p.bn,bg p.dV,.aB 9 (p.methods.map nF) .bc,.aB 3 (p.nodes.map jd) .bc,.int .i64 p.main]
def c9 (p:bR):af := .agg (c1 p)
def gL (x:bw):List af:=[.int .i64 x.atom,.int .i64 x.no,.int .i64 x.yes,bg x.ms]
def e9 (x:bw):af := .agg (gL x)
theorem eC.L5 {P:Program} {fv:af} {args:List af} {v:af} (h:eC P fv args v):di P fv args [] (fun o K=>o = .ret v∧K=[]):=fun s _=>hO.mono (h s) (fun o ak ⟨U,ad⟩=>⟨[],ad,trivial,U,rfl⟩)
theorem bF.G4 {P:Program} {f:FuncId} {args:List af} {v:af} (h:bF P f args [] (fun o K=>o = .ret v∧K=[])):aV P f args v:=fun s=>hh.mono (h s trivial) (fun o ak ⟨K,U,_,ad,aj⟩=>⟨ad,by subst aj;exact U⟩)
theorem L6 {α:Type} (q:α→Bool):∀ (xs:List α) (j:Nat) (x:α),xs[j]? = some x→q x=true→(∀ (i:Nat) y,i<j→xs[i]? = some y→q y=false)→xs.findIdx? q=some j:=by
 intro xs j x ab bk aN;obtain ⟨U,ad⟩:=t7.1 ab;rw [ah3];exact ⟨U,by rw [ad];exact bk,fun i eR=>by rw [aN i xs[i] eR (f7 _)];simp⟩
theorem L7 {α:Type} (q:α→Bool) (xs:List α) (aN:∀ (i:Nat) y,xs[i]? = some y→q y=false):xs.findIdx? q=none:=by
 rw [ah'];intro x ab;obtain ⟨i,h⟩:=ag2 ab;exact aN i x h
theorem UT {α:Type} {f:FuncId} {fv bC:af} {bW:α→af} {xs:List α} {q:α→Bool}
  (ar:∀ (T:Nat→a8) (cr:Nat→Bool),(∀ j x,xs[j]? = some x→(∀ i,i<j→cr i=false)→di d0 fv [bW x] (T j) (fun o K=>o = .ret (.bool (cr j))∧K=T (j+1)))→bF d0 f [bC,fv] (T 0)
   (fun o K=>(o = .ret (.int .i64 (-1))∧K=T xs.length∧∀ i,i<xs.length→cr i=false)∨∃ j,j<xs.length∧cr j=true∧(∀ i,i<j→cr i=false)∧o = .ret (.int .i64 (j:Int))∧K=T (j+1)))
  (h:∀ x∈xs,eC d0 fv [bW x] (.bool (q x))):aV d0 f [bC,fv] (.int .i64 (match xs.findIdx? q with|some i=>(i:Int)|none => -1)):=by
 have:=ar (fun _=>[]) (fun j=>match xs[j]? with|some x=>q x|none=>false) (fun j x ab _=>by rw [ab];exact eC.L5 (h x (d6 ab)));refine bF.G4 (bF.mono this ?_);rintro o K (⟨rfl,rfl,U⟩|⟨j,U,ad,aj,rfl,rfl⟩)
 ·rw [L7 q xs (fun i y ax=>by have:=U i (oe ax);rw [ax] at this;exact this)]
  exact ⟨rfl,rfl⟩
 ·have ab:=f7 U
  rw [ab] at ad;rw [L6 q xs j _ ab ad (fun i y eR ax=>by have:=aj i eR;rw [ax] at this;exact this)];exact ⟨rfl,rfl⟩
theorem AP {α:Type} {f:FuncId} {fv bC:af} {bW:α→af} {xs:List α} {q:α→Bool}
  (ar:∀ (T:Nat→a8) (cr:Nat→Bool),(∀ j x,xs[j]? = some x→(∀ i,i<j→cr i=false)→di d0 fv [bW x] (T j) (fun o K=>o = .ret (.bool (cr j))∧K=T (j+1)))→bF d0 f [bC,fv] (T 0)
   (fun o K=>(o = .ret (.bool false)∧K=T xs.length∧∀ i,i<xs.length→cr i=false)∨∃ j,j<xs.length∧cr j=true∧(∀ i,i<j→cr i=false)∧o = .ret (.bool true)∧K=T (j+1)))
  (h:∀ x∈xs,eC d0 fv [bW x] (.bool (q x))):aV d0 f [bC,fv] (.bool (xs.any q)):=by
 have:=ar (fun _=>[]) (fun j=>match xs[j]? with|some x=>q x|none=>false) (fun j x ab _=>by rw [ab];exact eC.L5 (h x (d6 ab)));refine bF.G4 (bF.mono this ?_);rintro o K (⟨rfl,rfl,U⟩|⟨j,U,ad,aj,rfl,rfl⟩)
 ·have:xs.any q=false:=by
   rw [List.any_eq_false];intro x ab;obtain ⟨i,aN⟩:=ag2 ab;have:=U i (oe aN);rw [aN] at this;simpa using this
  rw [this];exact ⟨rfl,rfl⟩
 ·have ab:=f7 U
  rw [ab] at ad;have:xs.any q=true:=List.any_eq_true.2 ⟨_,am9 U,ad⟩;rw [this];exact ⟨rfl,rfl⟩
def ga (v:Int×Int):af := .agg [.int .i64 v.1,.int .i64 v.2]
def iT (x:eH):af := .agg [.int .i64 x.cls,.aB 2 (x.bn.map ga) .bc]
theorem L8 (fv:af) (xs:List ao) (T:Nat→a8) (cr:Nat→Bool) (aE:xs.length<bB) (h:∀ j x,xs[j]? = some x→(∀ i,i<j→cr i=false)→di d0 fv [ao.bW x] (T j) (fun o K=>o = .ret (.bool (cr j))∧K=T (j+1))) :
  bF d0 150 [.aB 6 (xs.map ao.bW) .bc,fv] (T 0)
   (fun o K=>(o = .ret (.int .i64 (-1))∧K=T xs.length∧∀ i,i<xs.length→cr i=false)∨∃ j,j<xs.length∧cr j=true∧(∀ i,i<j→cr i=false)∧o = .ret (.int .i64 (j:Int))∧K=T (j+1)):=by
 have an:=bG;refine bF.bl ai Tryz.func150 C C fun s I=>?_
 refine gy ?_;refine ae.yo I (σ:=Nat) (fun j=>[(0,.aB 6 (xs.map ao.bW) .bc),(1,fv),(7,.int .i64 xs.length),(8,.int .i64 (j:Int))]) T (fun j=>j≤xs.length∧∀ i,i<j→cr i=false) (fun j=>xs.length-j) 0 ⟨by omega,fun i aN=>by omega⟩ Ax (aI.all _) ?_;rintro j ⟨aH,aq⟩ I;refine b8 ?_;refine ae.cond C (fun aw=>?_) (fun aY=>?_)
 ·have aw:j<xs.length:=by simpa using aw
  obtain ⟨x,ab,bP⟩:=b5 (f:=ao.bW) aw;have au:=h j x ab aq
  try rw [ao.cp] at bP au
  refine bD ?_;refine aa.gJ rfl rfl rfl rfl rfl rfl au I (aI.all _) ?_ (fun _ _ ⟨h,_⟩ _=>by cases h);rintro _ _ ⟨⟨⟩,rfl⟩ I;rw [d7] at I ⊢;cases og:cr j with
  | true=>
   refine e8 ?_;exact Fin.bt I C aO (aI.all _) (.inr ⟨j,aw,og,aq,rfl,rfl⟩)
  | false=>
   refine bD ?_
   exact bp.mk (j+1) I ⟨aw,fun i aN=>by
    rcases ah5.1 aN with aN|rfl
    ·exact aq i aN
    ·exact og⟩ ck (aI.all _) r3
 ·have aY:j=xs.length:=by
   have:xs.length≤j:=by simpa using aY
   omega
  subst aY;refine ef ?_;exact Fin.bt I C aO (aI.all _) (.inl ⟨rfl,rfl,aq⟩)
theorem G5 (fv:af) (xs:List ao) (T:Nat→a8) (cr:Nat→Bool) (aE:xs.length<bB) (h:∀ j x,xs[j]? = some x→(∀ i,i<j→cr i=false)→di d0 fv [ao.bW x] (T j) (fun o K=>o = .ret (.bool (cr j))∧K=T (j+1))) :
  bF d0 102 [.aB 6 (xs.map ao.bW) .bc,fv] (T 0)
   (fun o K=>(o = .ret (.bool false)∧K=T xs.length∧∀ i,i<xs.length→cr i=false)∨∃ j,j<xs.length∧cr j=true∧(∀ i,i<j→cr i=false)∧o = .ret (.bool true)∧K=T (j+1)):=by
 refine bF.bl ai Tryz.func102 C C fun s I=>?_
 refine dF ?_;refine aa.b7 rfl rfl rfl rfl rfl (L8 fv xs T cr aE h) I (aI.all _) ?_ (fun _ _ h _=>by rcases h with ⟨h,_⟩|⟨_,_,_,_,h,_⟩<;>cases h);rintro _ _ (⟨⟨⟩,rfl,U⟩|⟨j,U,ad,aj,⟨⟩,rfl⟩) I
 all_goals rw [d7] at I ⊢
 ·refine eA ?_
  exact Fin.bt I C aO (aI.all _) (.inl ⟨rfl,rfl,U⟩)
 ·refine eA ?_
  exact Fin.bt I C (by simp;exact aO) (aI.all _) (.inr ⟨j,U,ad,aj,rfl,rfl⟩)
theorem UU (fv:af) (q:ao→Bool) (xs:List ao) (aE:xs.length<bB) (h:∀ x∈xs,eC d0 fv [ao.bW x] (.bool (q x))) :
  aV d0 102 [.aB 6 (xs.map ao.bW) .bc,fv] (.bool (xs.any q)):=
 AP (fun T cr eo=>G5 fv xs T cr aE eo) h
theorem UW (fv:af) (q:ao→Bool) (xs:List ao) (aE:xs.length<bB) (h:∀ x∈xs,eC d0 fv [ao.bW x] (.bool (q x))) :
  aV d0 150 [.aB 6 (xs.map ao.bW) .bc,fv] (.int .i64 (match xs.findIdx? q with|some i=>(i:Int)|none => -1)):=
 UT (fun T cr eo=>L8 fv xs T cr aE eo) h
theorem UX (fv:af) (xs:List Int) (T:Nat→a8) (cr:Nat→Bool) (aE:xs.length<bB) (h:∀ j x,xs[j]? = some x→(∀ i,i<j→cr i=false)→di d0 fv [bb x] (T j) (fun o K=>o = .ret (.bool (cr j))∧K=T (j+1))) :
  bF d0 90 [.aB 1 (xs.map bb) .bc,fv] (T 0)
   (fun o K=>(o = .ret (.int .i64 (-1))∧K=T xs.length∧∀ i,i<xs.length→cr i=false)∨∃ j,j<xs.length∧cr j=true∧(∀ i,i<j→cr i=false)∧o = .ret (.int .i64 (j:Int))∧K=T (j+1)):=by
 have an:=bG;refine bF.bl ai Tryz.func90 C C fun s I=>?_
 refine gy ?_;refine ae.yo I (σ:=Nat) (fun j=>[(0,.aB 1 (xs.map bb) .bc),(1,fv),(7,.int .i64 xs.length),(8,.int .i64 (j:Int))]) T (fun j=>j≤xs.length∧∀ i,i<j→cr i=false) (fun j=>xs.length-j) 0 ⟨by omega,fun i aN=>by omega⟩ Ax (aI.all _) ?_;rintro j ⟨aH,aq⟩ I;refine b8 ?_;refine ae.cond C (fun aw=>?_) (fun aY=>?_)
 ·have aw:j<xs.length:=by simpa using aw
  obtain ⟨x,ab,bP⟩:=b5 (f:=bb) aw;have au:=h j x ab aq
  try rw [bb] at bP au
  refine bD ?_;refine aa.gJ rfl rfl rfl rfl rfl rfl au I (aI.all _) ?_ (fun _ _ ⟨h,_⟩ _=>by cases h);rintro _ _ ⟨⟨⟩,rfl⟩ I;rw [d7] at I ⊢;cases og:cr j with
  | true=>
   refine e8 ?_;exact Fin.bt I C aO (aI.all _) (.inr ⟨j,aw,og,aq,rfl,rfl⟩)
  | false=>
   refine bD ?_
   exact bp.mk (j+1) I ⟨aw,fun i aN=>by
    rcases ah5.1 aN with aN|rfl
    ·exact aq i aN
    ·exact og⟩ ck (aI.all _) r3
 ·have aY:j=xs.length:=by
   have:xs.length≤j:=by simpa using aY
   omega
  subst aY;refine ef ?_;exact Fin.bt I C aO (aI.all _) (.inl ⟨rfl,rfl,aq⟩)
theorem G6 (fv:af) (xs:List Int) (T:Nat→a8) (cr:Nat→Bool) (aE:xs.length<bB) (h:∀ j x,xs[j]? = some x→(∀ i,i<j→cr i=false)→di d0 fv [bb x] (T j) (fun o K=>o = .ret (.bool (cr j))∧K=T (j+1))) :
  bF d0 40 [.aB 1 (xs.map bb) .bc,fv] (T 0)
   (fun o K=>(o = .ret (.bool false)∧K=T xs.length∧∀ i,i<xs.length→cr i=false)∨∃ j,j<xs.length∧cr j=true∧(∀ i,i<j→cr i=false)∧o = .ret (.bool true)∧K=T (j+1)):=by
 refine bF.bl ai Tryz.func40 C C fun s I=>?_
 refine dF ?_;refine aa.b7 rfl rfl rfl rfl rfl (UX fv xs T cr aE h) I (aI.all _) ?_ (fun _ _ h _=>by rcases h with ⟨h,_⟩|⟨_,_,_,_,h,_⟩<;>cases h);rintro _ _ (⟨⟨⟩,rfl,U⟩|⟨j,U,ad,aj,⟨⟩,rfl⟩) I
 all_goals rw [d7] at I ⊢
 ·refine eA ?_
  exact Fin.bt I C aO (aI.all _) (.inl ⟨rfl,rfl,U⟩)
 ·refine eA ?_
  exact Fin.bt I C (by simp;exact aO) (aI.all _) (.inr ⟨j,U,ad,aj,rfl,rfl⟩)
theorem UY (fv:af) (q:Int→Bool) (xs:List Int) (aE:xs.length<bB) (h:∀ x∈xs,eC d0 fv [bb x] (.bool (q x))) :
  aV d0 40 [.aB 1 (xs.map bb) .bc,fv] (.bool (xs.any q)):=
 AP (fun T cr eo=>G6 fv xs T cr aE eo) h
theorem UZ (fv:af) (xs:List (Int×Int)) (T:Nat→a8) (cr:Nat→Bool) (aE:xs.length<bB) (h:∀ j x,xs[j]? = some x→(∀ i,i<j→cr i=false)→di d0 fv [ga x] (T j) (fun o K=>o = .ret (.bool (cr j))∧K=T (j+1))) :
  bF d0 241 [.aB 2 (xs.map ga) .bc,fv] (T 0)
   (fun o K=>(o = .ret (.int .i64 (-1))∧K=T xs.length∧∀ i,i<xs.length→cr i=false)∨∃ j,j<xs.length∧cr j=true∧(∀ i,i<j→cr i=false)∧o = .ret (.int .i64 (j:Int))∧K=T (j+1)):=by
 have an:=bG;refine bF.bl ai Tryz.func241 C C fun s I=>?_
 refine gy ?_;refine ae.yo I (σ:=Nat) (fun j=>[(0,.aB 2 (xs.map ga) .bc),(1,fv),(7,.int .i64 xs.length),(8,.int .i64 (j:Int))]) T (fun j=>j≤xs.length∧∀ i,i<j→cr i=false) (fun j=>xs.length-j) 0 ⟨by omega,fun i aN=>by omega⟩ Ax (aI.all _) ?_;rintro j ⟨aH,aq⟩ I;refine b8 ?_;refine ae.cond C (fun aw=>?_) (fun aY=>?_)
 ·have aw:j<xs.length:=by simpa using aw
  obtain ⟨x,ab,bP⟩:=b5 (f:=ga) aw;have au:=h j x ab aq
  try rw [ga] at bP au
  refine bD ?_;refine aa.gJ rfl rfl rfl rfl rfl rfl au I (aI.all _) ?_ (fun _ _ ⟨h,_⟩ _=>by cases h);rintro _ _ ⟨⟨⟩,rfl⟩ I;rw [d7] at I ⊢;cases og:cr j with
  | true=>
   refine e8 ?_;exact Fin.bt I C aO (aI.all _) (.inr ⟨j,aw,og,aq,rfl,rfl⟩)
  | false=>
   refine bD ?_
   exact bp.mk (j+1) I ⟨aw,fun i aN=>by
    rcases ah5.1 aN with aN|rfl
    ·exact aq i aN
    ·exact og⟩ ck (aI.all _) r3
 ·have aY:j=xs.length:=by
   have:xs.length≤j:=by simpa using aY
   omega
  subst aY;refine ef ?_;exact Fin.bt I C aO (aI.all _) (.inl ⟨rfl,rfl,aq⟩)
theorem U0 (fv:af) (xs:List (Int×Int)) (T:Nat→a8) (cr:Nat→Bool) (aE:xs.length<bB) (h:∀ j x,xs[j]? = some x→(∀ i,i<j→cr i=false)→di d0 fv [ga x] (T j) (fun o K=>o = .ret (.bool (cr j))∧K=T (j+1))) :
  bF d0 207 [.aB 2 (xs.map ga) .bc,fv] (T 0)
   (fun o K=>(o = .ret (.bool false)∧K=T xs.length∧∀ i,i<xs.length→cr i=false)∨∃ j,j<xs.length∧cr j=true∧(∀ i,i<j→cr i=false)∧o = .ret (.bool true)∧K=T (j+1)):=by
 refine bF.bl ai Tryz.func207 C C fun s I=>?_
 refine dF ?_;refine aa.b7 rfl rfl rfl rfl rfl (UZ fv xs T cr aE h) I (aI.all _) ?_ (fun _ _ h _=>by rcases h with ⟨h,_⟩|⟨_,_,_,_,h,_⟩<;>cases h);rintro _ _ (⟨⟨⟩,rfl,U⟩|⟨j,U,ad,aj,⟨⟩,rfl⟩) I
 all_goals rw [d7] at I ⊢
 ·refine eA ?_
  exact Fin.bt I C aO (aI.all _) (.inl ⟨rfl,rfl,U⟩)
 ·refine eA ?_
  exact Fin.bt I C (by simp;exact aO) (aI.all _) (.inr ⟨j,U,ad,aj,rfl,rfl⟩)
theorem U1 (fv:af) (q:(Int×Int)→Bool) (xs:List (Int×Int)) (aE:xs.length<bB) (h:∀ x∈xs,eC d0 fv [ga x] (.bool (q x))) :
  aV d0 207 [.aB 2 (xs.map ga) .bc,fv] (.bool (xs.any q)):=
 AP (fun T cr eo=>U0 fv xs T cr aE eo) h
theorem U2 (fv:af) (xs:List eH) (T:Nat→a8) (cr:Nat→Bool) (aE:xs.length<bB) (h:∀ j x,xs[j]? = some x→(∀ i,i<j→cr i=false)→di d0 fv [iT x] (T j) (fun o K=>o = .ret (.bool (cr j))∧K=T (j+1))) :
  bF d0 264 [.aB 2 (xs.map iT) .bc,fv] (T 0)
   (fun o K=>(o = .ret (.int .i64 (-1))∧K=T xs.length∧∀ i,i<xs.length→cr i=false)∨∃ j,j<xs.length∧cr j=true∧(∀ i,i<j→cr i=false)∧o = .ret (.int .i64 (j:Int))∧K=T (j+1)):=by
 have an:=bG;refine bF.bl ai Tryz.func264 C C fun s I=>?_
 refine gy ?_;refine ae.yo I (σ:=Nat) (fun j=>[(0,.aB 2 (xs.map iT) .bc),(1,fv),(7,.int .i64 xs.length),(8,.int .i64 (j:Int))]) T (fun j=>j≤xs.length∧∀ i,i<j→cr i=false) (fun j=>xs.length-j) 0 ⟨by omega,fun i aN=>by omega⟩ Ax (aI.all _) ?_;rintro j ⟨aH,aq⟩ I;refine b8 ?_;refine ae.cond C (fun aw=>?_) (fun aY=>?_)
 ·have aw:j<xs.length:=by simpa using aw
  obtain ⟨x,ab,bP⟩:=b5 (f:=iT) aw;have au:=h j x ab aq
  try rw [iT] at bP au
  refine bD ?_;refine aa.gJ rfl rfl rfl rfl rfl rfl au I (aI.all _) ?_ (fun _ _ ⟨h,_⟩ _=>by cases h);rintro _ _ ⟨⟨⟩,rfl⟩ I;rw [d7] at I ⊢;cases og:cr j with
  | true=>
   refine e8 ?_;exact Fin.bt I C aO (aI.all _) (.inr ⟨j,aw,og,aq,rfl,rfl⟩)
  | false=>
   refine bD ?_
   exact bp.mk (j+1) I ⟨aw,fun i aN=>by
    rcases ah5.1 aN with aN|rfl
    ·exact aq i aN
    ·exact og⟩ ck (aI.all _) r3
 ·have aY:j=xs.length:=by
   have:xs.length≤j:=by simpa using aY
   omega
  subst aY;refine ef ?_;exact Fin.bt I C aO (aI.all _) (.inl ⟨rfl,rfl,aq⟩)
theorem U3 (fv:af) (xs:List eH) (T:Nat→a8) (cr:Nat→Bool) (aE:xs.length<bB) (h:∀ j x,xs[j]? = some x→(∀ i,i<j→cr i=false)→di d0 fv [iT x] (T j) (fun o K=>o = .ret (.bool (cr j))∧K=T (j+1))) :
  bF d0 239 [.aB 2 (xs.map iT) .bc,fv] (T 0)
   (fun o K=>(o = .ret (.bool false)∧K=T xs.length∧∀ i,i<xs.length→cr i=false)∨∃ j,j<xs.length∧cr j=true∧(∀ i,i<j→cr i=false)∧o = .ret (.bool true)∧K=T (j+1)):=by
 refine bF.bl ai Tryz.func239 C C fun s I=>?_
 refine dF ?_;refine aa.b7 rfl rfl rfl rfl rfl (U2 fv xs T cr aE h) I (aI.all _) ?_ (fun _ _ h _=>by rcases h with ⟨h,_⟩|⟨_,_,_,_,h,_⟩<;>cases h);rintro _ _ (⟨⟨⟩,rfl,U⟩|⟨j,U,ad,aj,⟨⟩,rfl⟩) I
 all_goals rw [d7] at I ⊢
 ·refine eA ?_
  exact Fin.bt I C aO (aI.all _) (.inl ⟨rfl,rfl,U⟩)
 ·refine eA ?_
  exact Fin.bt I C (by simp;exact aO) (aI.all _) (.inr ⟨j,U,ad,aj,rfl,rfl⟩)
theorem U4 (fv:af) (q:eH→Bool) (xs:List eH) (aE:xs.length<bB) (h:∀ x∈xs,eC d0 fv [iT x] (.bool (q x))) :
  aV d0 239 [.aB 2 (xs.map iT) .bc,fv] (.bool (xs.any q)):=
 AP (fun T cr eo=>U3 fv xs T cr aE eo) h
theorem L9 {s s1:al} {w dn:World} {p jI:bU} {T:TypeId} {v:Value} {b:Nat} (hle:dc w p dn jI) (aA:Kept s s1 w p dn jI) (cg:dq dn jI s1) (AQ:dn.heap[b]? = some (.cells #[v] T (0,0)))
  (an:w.heap.size≤b) (aD:∀ o,¬ jI b o) (ar:s1 b=none) (x:Value) :
  dc w p (dn.setRow b #[x]) jI∧Kept s s1 w p (dn.setRow b #[x]) jI∧dq (dn.setRow b #[x]) jI s1∧dc dn jI (dn.setRow b #[x]) jI∧(dn.setRow b #[x]).heap[b]? = some (.cells #[x] T (0,0)):=by
 have kZ:dq dn jI (s1.set b (.box T [.any])):=by
  refine ⟨fun aW o dR=>?_,cg.lt⟩;by_cases e:aW=b
  ·subst e;rw [al.gk] at dR;cases dR
   exact ⟨_,AQ,.cons _ _ _ _ (.any v) .nil,aD⟩
  ·rw [al.fy _ _ e] at dR;exact cg.obj aW o dR
 obtain ⟨cF,dj,fe⟩:=vY kZ (al.gk _ _ _) (vs' := #[x]) (cs':=[.any]) (fun vs au=>by rw [AQ] at au;cases au;rfl) (.cons _ _ _ _ (.any x) .nil) _ C;have U5:∀ aW,aW≠b→(dn.setRow b #[x]).heap[aW]? = dn.heap[aW]?:=by
  intro aW dR;simp only [World.setRow];rw [ao7,d9 (Ne.symm dR)]
 refine ⟨hle.trans cF,⟨fun aW dR az=>(U5 aW ag).trans (aA.heap aW dR az),aA.kR,aA.lk⟩,fe.sub (fun aW=>?_),cF,?_⟩
 ·by_cases e:aW=b
  ·subst e;exact .inr ar
  ·left;rw [al.fy _ _ e,al.fy _ _ e]
 ·simp only [World.setRow]
  rw [ao7,g6 C,AQ];rfl
theorem L' {w:World} {b:Nat} {v x:Value} {T:TypeId} (h:w.heap[b]? = some (.cells #[v] T (0,0))):w.setCell ⟨b,0,none⟩ x=w.setRow b #[x]:=by
 simp only [World.setCell,World.setRow];congr 1;refine aw1 fun i=>?_
 rw [ao7,ao7];by_cases e:b=i
 ·subst e;rw [g6 C,g6 C,h];rfl
 ·rw [d9 e,d9 e]
theorem G7:∀ {rest:List PanicEntry},(∀ e∈rest,e.goexit=false)→rest.dropWhile (fun e => !e.goexit)=[]
 | [],_=>rfl
 | e::r,h=>by rw [List.dropWhile_cons,h e i8];simp only [aj3,ag7];exact G7 fun e' he=>h e' (i6 _ he)
theorem ae.use {P:Program} {N:Nat} {c:Code} {Q:b6→Env→al→Prop} {env:Env} {s:al} (h:ae P N c Q env s) {b:Frame} {B:fO} {a:Act} {w:World} {p:bU} (a7:(P.funcs[b.fn]?).isSome=true) (aJ:dx N B b.roundOf env s a w p) :
  jN P b c (kr N B b.roundOf s w p Q) a w:=h b B a w p a7 aJ
theorem di.frame {P:Program} {fv:af} {args:List af} {K L R:a8} {aem D:ey→a8→Prop} (h:di P fv args K aem) (ar:aI L K R) (e4:∀ o aP,aem o aP→D o (aP++R)):di P fv args L D:=
 fun s I=>(h.at I ar).mono fun o ak ⟨U6,e,yA,aP,G8,G9⟩=>by
  subst G8;exact ⟨_,e,yA,e4 o aP G9⟩
theorem a6.G' {P:Program} {Γ:cy} {N:Nat} {env:Env} {s:al} {o:Oper} (aQ:bO P Γ) {t yt e:TypeId} {x:Operand} {it:bN} {sz:Nat} {xs:List af} {own:bQ} (ah:o.op = .binOp .eql t x (.const (.slice none 0 0)) yt)
  (aL:Γ.get? t=some it) (bq:it.bH = .aB e) (ab:aK env x=some (.aB sz xs own)) {X:af→al→Prop} :
  a6 P N o env s (fun r ak=>ak=s∧((r = .bool true∧xs=[])∨r = .bool false)) X:=by
 refine a6.ku (by simp [Go.Proofs.YtnafpeohfbglmaaGreat.gE,ah]) fun ro B a w p aJ=>?_
 obtain ⟨info,d,U,ad,aj,a',bz,fG⟩:=aQ.parts aL;have hu:=aJ.aK ab;have ay:∃ e,d = .slice e:=by
  rw [bq] at aj;cases d<;>simp [ev] at aj<;>exact ⟨_,rfl⟩
 obtain ⟨e',rfl⟩:=ay;have cO:∀ q,(binOp .eql t (a.eval x) (.slice none 0 0)).run P w = .ok (.bool q) w→(∀ c,a.eval x ≠ .agg c)→(execOp a.eval o).run P w = .ok (.value (.bool q)) w:=by
  intro q bk aF;unfold execOp;rw [ah];refine gS ?_;show (do eqGuard .eql t x (.const (.slice none 0 0)) (a.eval x) (.slice none 0 0);binOp .eql t (a.eval x) (.slice none 0 0):Sem Value).run P w=_;rw [ac',sY w ⟨fun _=>⟨_,rfl⟩,aF⟩,i5,bk]
 generalize a.eval x=dQ at hu cO;cases hu with
 | hV _ _ _=>exact ⟨_,_,s,p,.bool true,cO true (vT C C (fun d=>by simp [Op.equalIn,run_underlying ad])).1 ba,.refl w p,.refl s w p,aJ.wf,⟨rfl,.inl ⟨rfl,rfl⟩⟩,.bool _⟩
 | ir a _ _ _=>exact ⟨_,_,s,p,.bool false,cO false (vT C C (fun d=>by simp [Op.equalIn,run_underlying ad])).1 ba,.refl w p,.refl s w p,aJ.wf,⟨rfl,.inr C⟩,.bool _⟩
 | aB g off n cap _ vs _ _ az aE aF aC ar hm aA cj ah=>exact ⟨_,_,s,p,.bool false,cO false (vT C C (fun d=>by simp [Op.equalIn,run_underlying ad])).1 ba,.refl w p,.refl s w p,aJ.wf,⟨rfl,.inr C⟩,.bool _⟩
def aM (J:al→Prop) (P:Program) (Γ:cy) (N:Nat) (l:List Oper) (i:Nat) (rest:List Oper) (Q:b6→Env→al→Prop) (env:Env) (s:al):Prop:=
 rW l.toArray=true→l.drop i=rest→J s→bm J P Γ N l.toArray Q (bX (2^i-1)) env s
theorem DB (i:Nat):(2^i-1)|||2^i=2^(i+1)-1:=by
 apply al8;intro j;rw [Nat.testBit_or,ai1,ai1,Nat.testBit_two_pow];by_cases h:i=j
 ·subst h;simp
 ·by_cases ad:j<i
  ·simp [ad];omega
  ·simp [ad,h];omega
theorem wQ {α:Type} {l:List α} {i:Nat} {o:α} {rest:List α} (h:l.drop i=o::rest):l[i]? = some o∧l.drop (i+1)=rest:=by
 have U:l[i]? = some o:=by
  have:=ae7 (fun x=>x[0]?) h;simpa using this
 refine ⟨U,?_⟩;have:l.drop (i+1)=(l.drop i).drop 1:=by rw [List.drop_drop]
 rw [this,h];rfl
theorem Ha {l:List Oper} (dD:rW l.toArray=true) {i:Nat} {o:Oper} (ah:l[i]? = some o):hi l.toArray (bX (2^i-1)) i:=by
 refine ⟨by simpa using (t7.1 ah).1,?_,fun j aH=>?_⟩
 ·simp [bX,ai1]
 ·have:=(Gd dD).back i j aH
  simp [bX,ai1,this]
section
variable {J:al→Prop} {P:Program} {Γ:cy} {N:Nat} {l:List Oper} {i:Nat} {rest:List Oper} {Q:b6→Env→al→Prop} {env:Env} {s:al} {o:Oper} {d:Nat}
theorem ae.lZ (aQ:bO P Γ) (hm:P.follows .mixedOrders=true) {id:Nat} (dD:rW l.toArray=true) (h:aM (fun ak=>ak=s) P Γ N l 0 l Q env s):ae P N (.region id l.toArray true) Q env s:=
 ae.qS _ aQ hm dD (h dD C C)
theorem ae.yq (aQ:bO P Γ) (hm:P.follows .mixedOrders=true) {id:Nat} (dD:rW l.toArray=true) (h:aM nC P Γ N l 0 l Q env s):ae P N (.region id l.toArray true) Q env s:=
 ae.qS _ aQ hm dD (h dD C trivial)
theorem aM.nil (h:Q .normal env s):aM J P Γ N l i [] Q env s:=fun dD ju _=>by
 refine bm.fin (fun j aH=>?_) h;have:l.length≤i:=by simpa using ju
 have aH:j<l.length:=by simpa using aH
 simp [bX,ai1];omega
theorem aM.still {v:af} (ay:o.dst=some d) (aT:d<N) (au:Still J P Γ N l.toArray o (b2 l env o) v) (h:aM J P Γ N l (i+1) rest Q ((d,v)::env) s):aM J P Γ N l i (o::rest) Q env s:=fun dD ju cL=>by
 obtain ⟨ah,q6⟩:=wQ ju;refine bm.still cL i o d v (Ha dD ah) (by simpa using ah) ay aT au ?_;rw [o2,DB];exact h dD q6 cL
theorem aM.step {v:af} (aL:wx Γ N l.toArray (b2 l env o) o=some (d,v)) (h:aM J P Γ N l (i+1) rest Q ((d,v)::env) s):aM J P Γ N l i (o::rest) Q env s:=by
 obtain ⟨U,ad,aj⟩:=C2 (J:=J) (P:=P) aL;exact aM.still U ad aj h
def runK (Γ:cy) (N:Nat) (ops:Array Oper):List Oper→Nat→Env→List Oper×Nat×Env
  | [],i,env=>([],i,env)
  | o::l,i,env=>match wx Γ N ops (ix env (looks ops o)) o with
    | some (d,v)=>runK Γ N ops l (i+1) ((d,v)::env)
    | none=>(o::l,i,env)
theorem aM.run {Ma:List Oper} {Cv:Nat} {eX:Env} (h:runK Γ N l.toArray rest i env=(Ma,Cv,eX)) (aA:aM J P Γ N l Cv Ma Q eX s):aM J P Γ N l i rest Q env s:=by
 induction rest generalizing i env with
 | nil=>simp only [runK,Prod.mk.injEq] at h;obtain ⟨rfl,rfl,rfl⟩:=h;exact aA
 | cons o r aX=>
  simp only [runK] at h;split at h
  ·rename_i d v aL
   exact aM.step aL (aX h)
  ·simp only [Prod.mk.injEq] at h;obtain ⟨rfl,rfl,rfl⟩:=h;exact aA
theorem aM.pure {v:af} (av:c4 l env o) (ay:o.dst=some d) (aT:aa' d N=true) (au:lT Γ o (b2 l env o) v) (h:aM J P Γ N l (i+1) rest Q ((d,v)::env) s):aM J P Γ N l i (o::rest) Q env s:=
 aM.still ay C5 (.inl ⟨av,au⟩) h
theorem aM.iw {v:af} (av:c4 l env o) (ay:o.dst=some d) (aT:aa' d N=true) (au:wg Γ o (b2 l env o)=some v) (h:aM J P Γ N l (i+1) rest Q ((d,v)::env) s):aM J P Γ N l i (o::rest) Q env s:=
 aM.pure av ay aT (.x au) h
theorem aM.calm {v:af} (av:c4 l env o) (ay:o.dst=some d) (aT:aa' d N=true) (au:∀ s,J s→a6 P N o (b2 l env o) s (fun x ak=>x=v∧ak=s) (fun _ _=>False)) (h:aM J P Γ N l (i+1) rest Q ((d,v)::env) s):aM J P Γ N l i (o::rest) Q env s:=
 aM.still ay C5 (.inr (.inr ⟨av,au⟩)) h
theorem aM.idx {t e:TypeId} {x y:Operand} {it aG:bN} {sz:Nat} {xs:List af} {own:bQ} {k:IntKind} {n:Int} (j:Nat) {v:af} {cs:List af} (av:c4 l env o) (ay:o.dst=some d) (aT:aa' d N=true) (bY:o.op = .indexAddr t x y) (aL:Γ.get? t=some it) (bq:it.bH = .aB e) (bL:Γ.get? e=some aG)
  (ab:aK (b2 l env o) x=some (.aB sz xs own)) (b':sz=aG.size) (ax:aK (b2 l env o) y=some (.int k n)) (eR:n=(j:Int)) (aH:xs[j]? = some v) (aF:cellsOf v=some cs)
  (h:aM J P Γ N l (i+1) rest Q ((d,.br cs 0)::env) s):aM J P Γ N l i (o::rest) Q env s:=
 aM.pure av ay aT (.idx j bY aL bq bL ab b' ax eR aH aF) h
theorem aM.slice {t e:TypeId} {x:Operand} {en aN jm:Option Operand} {it aG:bN} {sz:Nat} {xs:List af} {own cS:bQ} (a b:Nat) (av:c4 l env o) (ay:o.dst=some d) (aT:aa' d N=true)
  (bY:o.op = .slice t x en aN jm)
  (aL:Γ.get? t=some it) (bq:it.bH = .aB e) (bL:Γ.get? e=some aG) (ab:aK (b2 l env o) x=some (.aB sz xs own)) (b':xs=[]∨sz=aG.size)
  (iL:(en=none∧a=0)∨∃ y k,en=some y∧aK (b2 l env o) y=some (.int k (a:Int))) (qK:(aN=none∧jm=none∧b=xs.length)∨∃ y k,aN=some y∧aK (b2 l env o) y=some (.int k (b:Int)))
  (nz:(jm=none∧cS = .bc)∨(∃ y k,jm=some y∧aK (b2 l env o) y=some (.int k (b:Int))∧cS = .clip)) (aE:a≤b) (cY:b≤xs.length)
  (h:aM J P Γ N l (i+1) rest Q ((d,.aB sz ((xs.take b).drop a) cS)::env) s):aM J P Γ N l i (o::rest) Q env s:=
 aM.pure av ay aT (.slice a b bY aL bq bL ab b' iL qK nz aE cY) h
theorem aM.eb {f:FuncId} {fR:Array Operand} {c3:Array TypeId} {xs:List af} {v:af} (av:c4 l env o) (ay:o.dst=some d) (aT:aa' d N=true)
  (bY:o.op = .call { callee := .value (.func f),args:=fR,argTypes:=c3 }) (aR:fP (b2 l env o) fR.toList=some xs) (aF:aV P f xs v) (h:aM J P Γ N l (i+1) rest Q ((d,v)::env) s):aM J P Γ N l i (o::rest) Q env s:=
 aM.calm av ay aT (fun s _=>(a6.call bY (fv := .func f [] []) rfl aR (hO.fk (R:=fun o ak=>o = .ret v∧ak=s) (by simpa using aF s))).mono (fun x ak h=>by cases h.1;exact ⟨rfl,h.2⟩) (fun x ak h=>by cases h.1)) h
theorem aM.mw {g:Operand} {fv:af} {fR:Array Operand} {c3:Array TypeId} {xs:List af} {v:af} (av:c4 l env o) (ay:o.dst=some d) (aT:aa' d N=true)
  (bY:o.op = .call { callee := .value g,args:=fR,argTypes:=c3 }) (au:aK (b2 l env o) g=some fv) (aR:fP (b2 l env o) fR.toList=some xs) (aF:eC P fv xs v) (h:aM J P Γ N l (i+1) rest Q ((d,v)::env) s):aM J P Γ N l i (o::rest) Q env s:=
 aM.calm av ay aT (fun s _=>(a6.call bY au aR (aF s)).mono (fun x ak h=>by cases h.1;exact ⟨rfl,h.2⟩) (fun x ak h=>by cases h.1)) h
theorem aM.ez {L R:a8} (aQ:bO P Γ) (I:Ok s L) {t T:TypeId} {x:Operand} {dX:bN} {b off:Nat} {cs:List af} {v:af} (av:c4 l env o) (ay:o.dst=some d) (aT:aa' d N=true)
  (bY:o.op = .load t x) (aL:Γ.get? t=some dX) (ab:aK (b2 l env o) x=some (.ptr b off)) (ar:bo L (.own b) (.box T cs) R) (au:hK dX cs off=some v)
  (h:aM (fun ak=>ak=aS s L) P Γ N l (i+1) rest Q ((d,v)::env) (aS s L)):aM (fun ak=>ak=aS s L) P Γ N l i (o::rest) Q env (aS s L):=
 aM.calm av ay aT (fun _ e=>by subst e;exact a6.ez aQ I bY aL ab ar au) h
theorem aM.split (t:Nat) {b:Bool} (au:env.get? t=some (.bool b)) (eo:b=true→aM J P Γ N l i rest Q ((t,.bool true)::env) s) (k1:b=false→aM J P Γ N l i rest Q ((t,.bool false)::env) s):aM J P Γ N l i rest Q env s:=by
 have U:∀ u,Env.get? ((t,.bool b)::env) u=env.get? u:=fun u=>by
  rw [Env.get?];split
  ·rename_i hu;rw [← ae0 hu];exact au.symm
  ·rfl
 intro dD ju cL;refine bm.congr _ U ?_;cases b with
 | true=>exact eo C dD ju cL
 | false=>exact k1 C dD ju cL
theorem aM.hG {t:Nat} {b:Bool} (ar:Ll l.toArray o=some t) (au:env.get? t=some (.bool b)) (eo:b=true→aM J P Γ N l i (o::rest) Q ((t,.bool true)::env) s) (k1:b=false→aM J P Γ N l i (o::rest) Q ((t,.bool false)::env) s):aM J P Γ N l i (o::rest) Q env s:=
 aM.split t au eo k1
theorem aM.same (b:Bool) (av:guardOf l.toArray (b2 l env o) o=some b) (h:aM J P Γ N l i (o::rest) Q env s):aM J P Γ N l i (o::rest) Q env s:=h
theorem Mb {l:List Oper} (dD:rW l.toArray=true) {i:Nat} {o:Oper} (ju:l.drop i=[o]):∀ j,hi l.toArray (bX (2^i-1)) j→j=i:=fun j aH=>by
 obtain ⟨ah,q6⟩:=wQ ju;have ad:l.length≤i+1:=by simpa using q6
 have aj:j<l.length:=by simpa using aH.1
 have a':=aH.2.1;simp [bX,ai1] at a';omega
theorem Mc {l:List Oper} {i:Nat} {o:Oper} (ju:l.drop i=[o]):∀ j,j<l.toArray.size→ea (bX (2^i-1)) i j=true:=fun j aH=>by
 obtain ⟨ah,q6⟩:=wQ ju;have ad:l.length≤i+1:=by simpa using q6
 have aj:j<l.length:=by simpa using aH
 rw [o2,DB];simp [bX,ai1];omega
theorem aM.last {K X:af→al→Prop} (av:c4 l env o) (ay:o.dst=some d) (aT:aa' d N=true) (kj:kA l.toArray i=true) (h:a6 P N o (b2 l env o) s K X)
  (aA:∀ x ak,K x ak→Q .normal ((d,x)::env) ak) (ab:∀ x ak,X x ak→Q (.panic x) [] ak):aM J P Γ N l i [o] Q env s:=fun dD ju _=>by
 obtain ⟨ah,q6⟩:=wQ ju;have iZ:=Ha dD ah;have fo:=Mb dD ju;refine bm.split (fun _=>K) (fun _=>X) ⟨i,iZ.1,iZ.2.1⟩ (fun j o' aH cC=>?_) (fun j o' wy cC x ak bf=>by have:=fo j wy;subst this;exact .inr (C4 kj)) (fun j o' c2 aH cC cq x ak bf=>?_) (fun j o' aH cC cq x ak bf=>?_) (fun j o' aH cC x ak iu=>ab x ak iu)
 ·have:=fo j aH;subst this
  have cC:l[j]? = some o':=by simpa using cC
  rw [ah] at cC;cases cC;exact ⟨av,h,fun c2 cq=>by rw [ay] at cq;cases cq;simpa [Nat.blt_eq] using aT⟩
 ·have:=fo j aH;subst this
  have cC:l[j]? = some o':=by simpa using cC
  rw [ah] at cC;cases cC;rw [ay] at cq;cases cq;exact bm.fin (Mc ju) (aA x ak bf)
 ·have:=fo j aH;subst this
  have cC:l[j]? = some o':=by simpa using cC
  rw [ah] at cC;cases cC;rw [ay] at cq;cases cq
theorem aM.Hb {K X:af→al→Prop} (av:c4 l env o) (ay:o.dst=none) (kj:kA l.toArray i=true) (h:a6 P N o (b2 l env o) s K X)
  (aA:∀ x ak,K x ak→Q .normal env ak) (ab:∀ x ak,X x ak→Q (.panic x) [] ak):aM J P Γ N l i [o] Q env s:=fun dD ju _=>by
 obtain ⟨ah,q6⟩:=wQ ju;have iZ:=Ha dD ah;have fo:=Mb dD ju;refine bm.split (fun _=>K) (fun _=>X) ⟨i,iZ.1,iZ.2.1⟩ (fun j o' aH cC=>?_) (fun j o' wy cC x ak bf=>by have:=fo j wy;subst this;exact .inr (C4 kj)) (fun j o' c2 aH cC cq x ak bf=>?_) (fun j o' aH cC cq x ak bf=>?_) (fun j o' aH cC x ak iu=>ab x ak iu)
 ·have:=fo j aH;subst this
  have cC:l[j]? = some o':=by simpa using cC
  rw [ah] at cC;cases cC;exact ⟨av,h,fun c2 cq=>by rw [ay] at cq;cases cq⟩
 ·have:=fo j aH;subst this
  have cC:l[j]? = some o':=by simpa using cC
  rw [ah] at cC;cases cC;rw [ay] at cq;cases cq
 ·have:=fo j aH;subst this
  have cC:l[j]? = some o':=by simpa using cC
  rw [ah] at cC;cases cC;exact bm.fin (Mc ju) (aA x ak bf)
theorem aM.cM {L R:a8} (aQ:bO P Γ) (I:Ok s L) {t T:TypeId} {x y:Operand} {dX:bN} {b off:Nat} {cs us:List af} {v:af} (av:c4 l env o) (ay:o.dst=none) (kj:kA l.toArray i=true)
  (bY:o.op = .store t x y) (aL:Γ.get? t=some dX) (ab:aK (b2 l env o) x=some (.ptr b off)) (ax:aK (b2 l env o) y=some v)
  (au:cellsOf v=some us) (hu:af2 us.length dX.size=true) (U:us.all e7=true) (ar:bo L (.own b) (.box T cs) R) (fz:Nat.ble (off+us.length) cs.length=true)
  (h:Ok s ((.own b,.box T (eS off us cs))::R)→Q .normal env (aS s ((.own b,.box T (eS off us cs))::R))):aM J P Γ N l i [o] Q env (aS s L):=
 aM.Hb av ay kj (a6.cM aQ I bY aL ab ax au hu U ar fz (X:=fun _ _=>False)) (fun x ak ⟨U,ad⟩=>by subst U;exact h ad) (fun _ _ h=>h.elim)
theorem aM.b7 {L R K:a8} {aem:ey→a8→Prop} {f:FuncId} {fR:Array Operand} {c3:Array TypeId} {xs:List af} (av:c4 l env o) (ay:o.dst=some d) (aT:aa' d N=true) (kj:kA l.toArray i=true)
  (bY:o.op = .call { callee := .value (.func f),args:=fR,argTypes:=c3 }) (aR:fP (b2 l env o) fR.toList=some xs) (h:bF P f xs K aem) (I:Ok s L) (ar:aI L K R)
  (aA:∀ x aP,aem (.ret x) aP→Ok s (aP++R)→Q .normal ((d,x)::env) (aS s (aP++R))) (ab:∀ x aP,aem (.panic x) aP→Ok s (aP++R)→Q (.panic x) [] (aS s (aP++R))):aM J P Γ N l i [o] Q env (aS s L):=
 aM.last av ay aT kj (a6.b7 bY aR h I ar) (fun x ak ⟨aP,U,ad,aj⟩=>by subst U;exact aA x aP aj ad) (fun x ak ⟨aP,U,ad,aj⟩=>by subst U;exact ab x aP aj ad)
theorem aM.yB {K X:af→al→Prop} (av:c4 l env o) (ay:o.dst=some d) (aT:aa' d N=true) (aC:eK l.toArray (2^i-1) (idxs 0 l)=[i]) (h:a6 P N o (b2 l env o) s K X) (aH:∀ x ak,K x ak→J ak)
  (aA:∀ x ak,K x ak→aM J P Γ N l (i+1) rest Q ((d,x)::env) ak) (ab:∀ x ak,X x ak→Q (.panic x) [] ak):aM J P Γ N l i (o::rest) Q env s:=fun dD ju _=>by
 obtain ⟨ah,q6⟩:=wQ ju;refine bm.one aC (by simpa using ah) ay aT av h (fun x ak bf => .inl (aH x ak bf)) (fun x ak bf=>?_) ab;rw [DB];exact aA x ak bf dD q6 (aH x ak bf)
theorem aM.U7 {K X:af→al→Prop} (av:c4 l env o) (ay:o.dst=none) (aC:eK l.toArray (2^i-1) (idxs 0 l)=[i]) (h:a6 P N o (b2 l env o) s K X) (aH:∀ x ak,K x ak→J ak)
  (aA:∀ x ak,K x ak→aM J P Γ N l (i+1) rest Q env ak) (ab:∀ x ak,X x ak→Q (.panic x) [] ak):aM J P Γ N l i (o::rest) Q env s:=fun dD ju _=>by
 obtain ⟨ah,q6⟩:=wQ ju;refine bm.yi aC (by simpa using ah) ay av h (fun x ak bf => .inl (aH x ak bf)) (fun x ak bf=>?_) ab;rw [DB];exact aA x ak bf dD q6 (aH x ak bf)
theorem aM.Md {L:a8} (aQ:bO P Γ) (I:Ok s L) {t:TypeId} {dX:bN} {z:af} {cs:List af} (av:c4 l env o) (ay:o.dst=some d) (aT:aa' d N=true) (aC:eK l.toArray (2^i-1) (idxs 0 l)=[i])
  (bY:o.op = .alloc t) (aL:Γ.get? t=some dX) (bE:hD dX.zero=some z) (aF:cellsOf z=some cs)
  (h:∀ b,Ok s ((.own b,.box t cs)::L)→aM nC P Γ N l (i+1) rest Q ((d,.ptr b 0)::env) (aS s ((.own b,.box t cs)::L))):aM nC P Γ N l i (o::rest) Q env (aS s L):=
 aM.yB av ay aT aC (a6.dK aQ I bY aL bE aF (X:=fun _ _=>False)) (fun _ _ _=>trivial) (fun x ak ⟨b,U,ad,aj⟩=>by subst U;subst ad;exact h b aj) (fun _ _ h=>h.elim)
theorem aM.storeT {L R:a8} (aQ:bO P Γ) (I:Ok s L) {t T:TypeId} {x y:Operand} {dX:bN} {b off:Nat} {cs us:List af} {v:af} (av:c4 l env o) (ay:o.dst=none) (aC:eK l.toArray (2^i-1) (idxs 0 l)=[i])
  (bY:o.op = .store t x y) (aL:Γ.get? t=some dX) (ab:aK (b2 l env o) x=some (.ptr b off)) (ax:aK (b2 l env o) y=some v)
  (au:cellsOf v=some us) (hu:af2 us.length dX.size=true) (U:us.all e7=true) (ar:bo L (.own b) (.box T cs) R) (fz:Nat.ble (off+us.length) cs.length=true)
  (h:Ok s ((.own b,.box T (eS off us cs))::R)→aM nC P Γ N l (i+1) rest Q env (aS s ((.own b,.box T (eS off us cs))::R))):aM nC P Γ N l i (o::rest) Q env (aS s L):=
 aM.U7 av ay aC (a6.cM aQ I bY aL ab ax au hu U ar fz (X:=fun _ _=>False)) (fun _ _ _=>trivial) (fun x ak ⟨U,ad⟩=>by subst U;exact h ad) (fun _ _ h=>h.elim)
theorem aM.loadT {L R:a8} (aQ:bO P Γ) (I:Ok s L) {t T:TypeId} {x:Operand} {dX:bN} {b off:Nat} {cs:List af} {v:af} (av:c4 l env o) (ay:o.dst=some d) (aT:aa' d N=true) (aC:eK l.toArray (2^i-1) (idxs 0 l)=[i])
  (bY:o.op = .load t x) (aL:Γ.get? t=some dX) (ab:aK (b2 l env o) x=some (.ptr b off)) (ar:bo L (.own b) (.box T cs) R) (au:hK dX cs off=some v)
  (h:aM nC P Γ N l (i+1) rest Q ((d,v)::env) (aS s L)):aM nC P Γ N l i (o::rest) Q env (aS s L):=
 aM.yB av ay aT aC (a6.ez aQ I bY aL ab ar au (X:=fun _ _=>False)) (fun _ _ _=>trivial) (fun x ak ⟨U,ad⟩=>by subst U;subst ad;exact h) (fun _ _ h=>h.elim)
theorem aM.kG {L R K:a8} {aem:ey→a8→Prop} {f:FuncId} {fR:Array Operand} {c3:Array TypeId} {xs:List af} (av:c4 l env o) (ay:o.dst=some d) (aT:aa' d N=true) (aC:eK l.toArray (2^i-1) (idxs 0 l)=[i])
  (bY:o.op = .call { callee := .value (.func f),args:=fR,argTypes:=c3 }) (aR:fP (b2 l env o) fR.toList=some xs) (h:bF P f xs K aem) (I:Ok s L) (ar:aI L K R)
  (aA:∀ x aP,aem (.ret x) aP→Ok s (aP++R)→aM nC P Γ N l (i+1) rest Q ((d,x)::env) (aS s (aP++R))) (ab:∀ x aP,aem (.panic x) aP→Ok s (aP++R)→Q (.panic x) [] (aS s (aP++R))):aM nC P Γ N l i (o::rest) Q env (aS s L):=
 aM.yB av ay aT aC (a6.b7 bY aR h I ar) (fun _ _ _=>trivial) (fun x ak ⟨aP,U,ad,aj⟩=>by subst U;exact aA x aP aj ad) (fun x ak ⟨aP,U,ad,aj⟩=>by subst U;exact ab x aP aj ad)
end
def yC (i:bN):Bool:=match i.bH with
 | .struct _=>false
 | .arr _ _=>false
 | .other=>false
 | _=>true
theorem U8 {cs:List af} {off:Nat} {v:af} (h:cs[off]? = some v):qB off cs=some (v::cs.drop (off+1)):=by
 induction off generalizing cs with
 | zero=>
  cases cs with
  | nil=>cases h
  | cons x r=>simp at h;subst h;rfl
 | succ n aX=>
  cases cs with
  | nil=>cases h
  | cons x r=>
   have:=aX (cs:=r) fV;simp only [qB,List.drop_succ_cons];exact this
theorem p1 {i:bN} {cs:List af} {off:Nat} {v:af} (U:yC i=true) (h:cs[off]? = some v):hK i cs off=some v:=by
 unfold hK yC at *;rw [U8 h];simp only;split at U<;>simp_all
section
variable {J:al→Prop} {P:Program} {Γ:cy} {N:Nat} {ops:Array Oper} {l:List Oper} {i:Nat} {rest:List Oper} {Q:b6→Env→al→Prop} {env:Env} {s:al} {o:Oper} {d:Nat}
theorem a6.Me (aQ:bO P Γ) {t:TypeId} {x:Operand} {dX:bN} {off:Nat} {cs:List af} {v:af} (bY:o.op = .load t x) (aL:Γ.get? t=some dX) (ab:aK env x=some (.br cs off)) (au:hK dX cs off=some v) :
  a6 P N o env s (fun x ak=>x=v∧ak=s) (fun _ _=>False):=
 a6.ns (by simp [gE,bY]) fun ro B a w p aJ=>KC aQ aJ bY aL ab au
theorem aa.AR (aQ:bO P Γ) {t:TypeId} {x:Operand} {dX:bN} {off:Nat} {cs:List af} {v:af} (av:guardOf ops env o=some true) (ay:o.dst=some d) (aT:aa' d N=true) (bY:o.op = .load t x) (aL:Γ.get? t=some dX) (ab:aK env x=some (.br cs off)) (U:yC dX=true) (au:cs[off]? = some v)
  (h:aa P N ops rest Q ((d,v)::env) s):aa P N ops (o::rest) Q env s:=
 aa.op av ay aT (a6.Me aQ bY aL ab (p1 U au)) (fun x ak ⟨U,ad⟩=>by subst U;subst ad;exact h) (fun _ _ h=>h.elim)
theorem aM.AR (aQ:bO P Γ) {t:TypeId} {x:Operand} {dX:bN} {off:Nat} {cs:List af} {v:af} (av:c4 l env o) (ay:o.dst=some d) (aT:aa' d N=true) (bY:o.op = .load t x) (aL:Γ.get? t=some dX) (ab:aK (b2 l env o) x=some (.br cs off)) (U:yC dX=true) (au:cs[off]? = some v)
  (h:aM J P Γ N l (i+1) rest Q ((d,v)::env) s):aM J P Γ N l i (o::rest) Q env s:=
 aM.calm av ay aT (fun s _=>a6.Me aQ bY aL ab (p1 U au)) h
theorem aa.jY {L R:a8} (aQ:bO P Γ) (I:Ok s L) {t T:TypeId} {x:Operand} {dX:bN} {b off:Nat} {cs:List af} {v:af} (av:guardOf ops env o=some true) (ay:o.dst=some d) (aT:aa' d N=true) (bY:o.op = .load t x) (aL:Γ.get? t=some dX) (ab:aK env x=some (.ptr b off)) (ar:bo L (.own b) (.box T cs) R) (U:yC dX=true) (au:cs[off]? = some v)
  (h:aa P N ops rest Q ((d,v)::env) (aS s L)):aa P N ops (o::rest) Q env (aS s L):=
 aa.ez aQ I av ay aT bY aL ab ar (p1 U au) h
theorem aM.jY {L R:a8} (aQ:bO P Γ) (I:Ok s L) {t T:TypeId} {x:Operand} {dX:bN} {b off:Nat} {cs:List af} {v:af} (av:c4 l env o) (ay:o.dst=some d) (aT:aa' d N=true) (bY:o.op = .load t x) (aL:Γ.get? t=some dX) (ab:aK (b2 l env o) x=some (.ptr b off)) (ar:bo L (.own b) (.box T cs) R) (U:yC dX=true) (au:cs[off]? = some v)
  (h:aM (fun ak=>ak=aS s L) P Γ N l (i+1) rest Q ((d,v)::env) (aS s L)):aM (fun ak=>ak=aS s L) P Γ N l i (o::rest) Q env (aS s L):=
 aM.ez aQ I av ay aT bY aL ab ar (p1 U au) h
theorem aM.l1 (aQ:bO P Γ) {t e:TypeId} {x y:Operand} {it aG:bN} {k:IntKind} {len off:Nat} {cs:List af} {z:Int} (j:Nat) (av:c4 l env o) (ay:o.dst=some d) (aT:aa' d N=true) (ah:o.op = .indexAddr t x y) (aL:Γ.get? t=some it) (bq:it.bH = .arr len e) (bL:Γ.get? e=some aG) (ab:aK (b2 l env o) x=some (.br cs off)) (ax:aK (b2 l env o) y=some (.int k z)) (eR:z=(j:Int)) (aH:j<len)
  (h:aM J P Γ N l (i+1) rest Q ((d,.br cs (off+j*aG.size))::env) s):aM J P Γ N l i (o::rest) Q env s:=
 aM.calm av ay aT (fun s _=>a6.l1 aQ ah aL bq bL ab ax eR aH) h
theorem aM.arr (aQ:bO P Γ) {t e:TypeId} {x y:Operand} {it aG:bN} {k:IntKind} {len b off:Nat} {z:Int} (j:Nat) (av:c4 l env o) (ay:o.dst=some d) (aT:aa' d N=true) (ah:o.op = .indexAddr t x y) (aL:Γ.get? t=some it) (bq:it.bH = .arr len e) (bL:Γ.get? e=some aG) (ab:aK (b2 l env o) x=some (.ptr b off)) (ax:aK (b2 l env o) y=some (.int k z)) (eR:z=(j:Int)) (aH:j<len)
  (h:aM J P Γ N l (i+1) rest Q ((d,.ptr b (off+j*aG.size))::env) s):aM J P Γ N l i (o::rest) Q env s:=
 aM.calm av ay aT (fun s _=>a6.arr aQ ah aL bq bL ab ax eR aH) h
theorem aM.jv {L R:a8} (aQ:bO P Γ) (I:Ok s L) {t T:TypeId} {x y:Operand} {dX:bN} {b off:Nat} {cs us:List af} {v:af} (cs':List af) (av:c4 l env o) (ay:o.dst=none) (kj:kA l.toArray i=true)
  (bY:o.op = .store t x y) (aL:Γ.get? t=some dX) (ab:aK (b2 l env o) x=some (.ptr b off)) (ax:aK (b2 l env o) y=some v)
  (au:cellsOf v=some us) (hu:af2 us.length dX.size=true) (U:us.all e7=true) (ar:bo L (.own b) (.box T cs) R) (fz:off+us.length≤cs.length) (he:eS off us cs=cs')
  (h:Ok s ((.own b,.box T cs')::R)→Q .normal env (aS s ((.own b,.box T cs')::R))):aM J P Γ N l i [o] Q env (aS s L):=by
 subst he;exact aM.cM aQ I av ay kj bY aL ab ax au hu U ar (by simpa [Nat.ble_eq] using fz) h
theorem aa.jv {L R:a8} (aQ:bO P Γ) (I:Ok s L) {t T:TypeId} {x y:Operand} {dX:bN} {b off:Nat} {cs us:List af} {v:af} (cs':List af) (av:guardOf ops env o=some true) (ay:o.dst=none)
  (bY:o.op = .store t x y) (aL:Γ.get? t=some dX) (ab:aK env x=some (.ptr b off)) (ax:aK env y=some v)
  (au:cellsOf v=some us) (hu:af2 us.length dX.size=true) (U:us.all e7=true) (ar:bo L (.own b) (.box T cs) R) (fz:off+us.length≤cs.length) (he:eS off us cs=cs')
  (h:Ok s ((.own b,.box T cs')::R)→aa P N ops rest Q env (aS s ((.own b,.box T cs')::R))):aa P N ops (o::rest) Q env (aS s L):=by
 subst he;exact aa.cM aQ I av ay bY aL ab ax au hu U ar (by simpa [Nat.ble_eq] using fz) h
theorem pb {off:Nat} {v:af}:∀ {cs:List af},eS off [v] cs=cs.set off v:=by
  induction off with
  | zero=>intro cs;cases cs<;>rfl
  | succ n aX=>intro cs;cases cs with
    | nil=>rfl
    | cons x r=>exact ae7 (x :: ·) (aX (cs:=r))
theorem aa.lx {f:FuncId} {fR:Array Operand} {c3:Array TypeId} {xs ys:List af} {v:af} (av:guardOf ops env o=some true) (ay:o.dst=some d) (aT:aa' d N=true)
  (bY:o.op = .call { callee := .value (.func f),args:=fR,argTypes:=c3 }) (aR:fP env fR.toList=some xs) (h:aV P f ys v) (aE:cR xs ys) (aA:aa P N ops rest Q ((d,v)::env) s):aa P N ops (o::rest) Q env s:=
 aa.eb av ay aT bY aR (aV.args aE h) aA
theorem aM.lx {f:FuncId} {fR:Array Operand} {c3:Array TypeId} {xs ys:List af} {v:af} (av:c4 l env o) (ay:o.dst=some d) (aT:aa' d N=true)
  (bY:o.op = .call { callee := .value (.func f),args:=fR,argTypes:=c3 }) (aR:fP (b2 l env o) fR.toList=some xs) (aF:aV P f ys v) (aE:cR xs ys) (h:aM J P Γ N l (i+1) rest Q ((d,v)::env) s):aM J P Γ N l i (o::rest) Q env s:=
 aM.eb av ay aT bY aR (aV.args aE aF) h
theorem ae.uV {L R:a8} (I:Ok s L) (b:Nat) {ds:dC} (ar:bo L (.own b) ds R) (aQ:bO P Γ) (hm:P.follows .mixedOrders=true) {id:Nat} (dD:rW l.toArray=true) (h:aM (fun ak=>ak b=some ds) P Γ N l 0 l Q env (aS s L)):ae P N (.region id l.toArray true) Q env (aS s L):=
 ae.qS _ aQ hm dD (h dD C (ar.get I))
theorem aM.r1 (aQ:bO P Γ) {t T:TypeId} {x:Operand} {dX:bN} {b off:Nat} {cs:List af} {v:af} (av:c4 l env o) (ay:o.dst=some d) (aT:aa' d N=true)
  (bY:o.op = .load t x) (aL:Γ.get? t=some dX) (ab:aK (b2 l env o) x=some (.ptr b off)) (au:hK dX cs off=some v)
  (h:aM (fun ak=>ak b=some (.box T cs)) P Γ N l (i+1) rest Q ((d,v)::env) s):aM (fun ak=>ak b=some (.box T cs)) P Γ N l i (o::rest) Q env s:=
 aM.calm av ay aT (fun s cL=>a6.uB aQ bY aL ab cL au) h
theorem aM.AS {L R K:a8} {aem:ey→a8→Prop} {b:Nat} {ds:dC} {g:Operand} {fv:af} {fR:Array Operand} {c3:Array TypeId} {xs:List af} (av:c4 l env o) (ay:o.dst=some d) (aT:aa' d N=true) (aC:eK l.toArray (2^i-1) (idxs 0 l)=[i])
  (bY:o.op = .call { callee := .value g,args:=fR,argTypes:=c3 }) (au:aK (b2 l env o) g=some fv) (aR:fP (b2 l env o) fR.toList=some xs) (h:di P fv xs K aem) (I:Ok s L) (ar:aI L K R)
  (aH:∀ x aP,aem (.ret x) aP→∃ dt,bo (aP++R) (.own b) ds dt)
  (aA:∀ x aP,aem (.ret x) aP→Ok s (aP++R)→aM (fun ak=>ak b=some ds) P Γ N l (i+1) rest Q ((d,x)::env) (aS s (aP++R))) (ab:∀ x aP,aem (.panic x) aP→Ok s (aP++R)→Q (.panic x) [] (aS s (aP++R))):aM (fun ak=>ak b=some ds) P Γ N l i (o::rest) Q env (aS s L):=
 aM.yB av ay aT aC (a6.gJ bY au aR h I ar) (fun x ak ⟨aP,U,ad,aj⟩=>by subst U;obtain ⟨dt,hF⟩:=aH x aP aj;exact hF.get ad) (fun x ak ⟨aP,U,ad,aj⟩=>by subst U;exact aA x aP aj ad) (fun x ak ⟨aP,U,ad,aj⟩=>by subst U;exact ab x aP aj ad)
theorem aM.U9 {L R K:a8} {aem:ey→a8→Prop} {g:Operand} {fv:af} {fR:Array Operand} {c3:Array TypeId} {xs:List af} (av:c4 l env o) (ay:o.dst=some d) (aT:aa' d N=true) (aC:eK l.toArray (2^i-1) (idxs 0 l)=[i])
  (bY:o.op = .call { callee := .value g,args:=fR,argTypes:=c3 }) (au:aK (b2 l env o) g=some fv) (aR:fP (b2 l env o) fR.toList=some xs) (h:di P fv xs K aem) (I:Ok s L) (ar:aI L K R)
  (aA:∀ x aP,aem (.ret x) aP→Ok s (aP++R)→aM nC P Γ N l (i+1) rest Q ((d,x)::env) (aS s (aP++R))) (ab:∀ x aP,aem (.panic x) aP→Ok s (aP++R)→Q (.panic x) [] (aS s (aP++R))):aM nC P Γ N l i (o::rest) Q env (aS s L):=
 aM.yB av ay aT aC (a6.gJ bY au aR h I ar) (fun _ _ _=>trivial) (fun x ak ⟨aP,U,ad,aj⟩=>by subst U;exact aA x aP aj ad) (fun x ak ⟨aP,U,ad,aj⟩=>by subst U;exact ab x aP aj ad)
end
theorem U' {w:World} {p:bU} {s:al} (cg:dq w p s) {vs:List Value} {xs:List af} {sz cap:Nat} {e:TypeId} {cur:Array Value} (aC:bJ w p vs xs)
    (ar:∀ v∈vs,v.cells.size=sz) (oW:cur.size=cap*sz) (v8:cur.toList.take (xs.length*sz)=flat vs) (ky:xs.length≤cap) (hm:xs.length≤9223372036854775807) :
    ∃ bj,s w.heap.size=none∧dc w p (w.alloc (.cells cur e)) bj∧Kept s (s.set w.heap.size (.row e sz xs.length)) w p (w.alloc (.cells cur e)) bj ∧
      dq (w.alloc (.cells cur e)) bj (s.set w.heap.size (.row e sz xs.length))∧Rel (w.alloc (.cells cur e)) bj (.slice (some ⟨w.heap.size,0,none⟩) xs.length cap) (.aB sz xs (.own w.heap.size)):=by
  have az:s w.heap.size=none:=by
    cases h:s w.heap.size with
    | none=>rfl
    | some o'=>exact absurd (cg.obj _ _ h).lt ag
  let bj:bU:=fun b o=>p b o∨(b=w.heap.size∧o<xs.length*sz)
  have oX:(w.alloc (.cells cur e)).heap[w.heap.size]? = some (.cells cur e):=uu w _;have hold:∀ b,b<w.heap.size→(w.alloc (.cells cur e)).heap[b]? = w.heap[b]? := fun b an=>ml w _ b an
  have hle:dc w p (w.alloc (.cells cur e)) bj:=dc.of_heap C C C ba (fun _ _ h => .inl h) cg.lt hold;have hlen:=v7 ar;have hmul:xs.length*sz≤cap*sz:=am8 _ ky;refine ⟨bj,az,hle,⟨fun b an _=>hold b an,fun b an ar=>by rw [al.fy _ _ ag];exact ar,fun b o an _ aD=>by rcases aD with aD|⟨rfl,_⟩;exact aD;omega⟩,?_,?_⟩
  · have av:dq (w.alloc (.cells cur e)) bj s:=cg.grow hle hold (fun b o an aD=>by rcases aD with aD|⟨rfl,_⟩;exact aD;omega) (fun b o aD=>by
      rcases aD with aD|⟨rfl,_⟩
      · have:=cg.lt b o aD;simp;omega
      · simp)
    refine ⟨fun b o an=>?_,av.lt⟩;by_cases e':b=w.heap.size
    · subst e'
      rw [al.gk] at an;cases an;refine ⟨cur,oX,by omega,⟨cap,oW⟩,fun o=>⟨fun aD=>?_,fun ah => .inr ⟨rfl,ah⟩⟩⟩;rcases aD with aD|⟨_,ah⟩
      · exact absurd (cg.lt _ _ aD) ag
      · exact ah
    · rw [al.fy _ _ e'] at an;exact av.obj b o an
  · refine .aB _ 0 _ _ _ vs _ _ ba rfl ?_ (aC.mono hle) ar hm ky (fun h=>by cases h) (fun b an=>?_)
    · intro i v au
      have aN:i<xs.length*sz:=by
        have:=(t7.1 au).1;rw [hlen,aC.length] at this;exact this
      refine ⟨.inr ⟨rfl,by omega⟩,?_⟩;rw [af8,jE oX];rw [← v8,ai2,g6 aN] at au;simpa using au
    · cases an
      exact ⟨rfl,rfl,e,by simp only [World.kQ,oX,oW]⟩
theorem Mf {z:Value} (h:z.cells = #[z]) (n:Nat):(madeCells z.cells n).toList=ab' n z:=by
 refine List.ext_getElem? fun i=>?_
 unfold madeCells;rw [h];simp only [Array.toList_map,Array.toList_range,af3,List.getElem?_replicate];by_cases aN:i<n
 ·rw [List.getElem?_range aN,g6 aN]
  simp [Nat.mod_one]
 ·rw [List.getElem?_eq_none cP,d9 aN];rfl
section
variable {P:Program} {Γ:cy} {N:Nat} {ops:Array Oper} {Q:b6→Env→al→Prop} {env:Env} {s:al} {l:List Oper} {o:Oper} {d:Nat} {L R:a8}
theorem Mg (aQ:bO P Γ) {t e:TypeId} {it aG:bN} (aL:Γ.get? t=some it) (bq:it.bH = .aB e) (bL:Γ.get? e=some aG) (nA p2:IntKind) (n c:Nat) (p3:n≤c) (an:c*aG.bytes≤140737488355328) (ed:c≤9223372036854775807) (w:World) :
  (Instr.makeSlice t (.int nA (n:Int)) (.int p2 (c:Int))).run P w = .ok (.slice (some ⟨w.heap.size,0,none⟩) n c) (w.alloc (.cells (madeCells aG.zero.cells (c*aG.size)) e)):=by
 obtain ⟨info,d,g1,g2,g3,-⟩:=aQ.parts aL;obtain ⟨jO,kv,cF,dj,fe,eI,jP,jl⟩:=aQ.parts bL;have ay:d = .slice e:=by rw [bq] at g3;cases d<;>simp [ev] at g3;rw [g3]
 subst ay;have dR:(jO.bytes:Int)*(c:Int)≤281474976710656:=by
  rw [jP];have:((aG.bytes*c:Nat):Int)≤281474976710656:=by rw [Nat.mul_comm];omega
  rwa [Int.natCast_mul] at this
 have:=run_make (P:=P) w t e jO aG.zero g2 cF jl nA p2 (n:Int) (c:Int) ag ag dR ag;rw [i9,i9,eI] at this;exact this
theorem a6.tz (aQ:bO P Γ) (I:Ok s L) {t e:TypeId} {x y:Operand} {it aG:bN} {nA p2:IntKind} {z:af} (n:Nat) (ah:o.op = .makeSlice t x y) (aL:Γ.get? t=some it) (bq:it.bH = .aB e) (bL:Γ.get? e=some aG) (U:aG.size=1)
  (uW:aG.zero.oneCell'=true) (bE:hD aG.zero=some z) (ab:aK env x=some (.int nA (n:Int))) (ax:aK env y=some (.int p2 (n:Int))) (an:n*aG.bytes≤140737488355328) (ed:n≤9223372036854775807) {X:af→al→Prop} :
  a6 P N o env (aS s L) (fun r ak=>∃ b,r=eh b n n∧ak=aS s ((.own b,.box e (ab' n z))::L)∧Ok s ((.own b,.box e (ab' n z))::L)) X:=by
 refine a6.ku ja fun ro B a w p aJ=>?_
 have gd:=aJ.aK ab;have fj:=aJ.aK ax;generalize ew:a.eval x=dQ at gd;generalize ff:a.eval y=fY at fj;cases gd;cases fj;have cO:=Mg aQ aL bq bL nA p2 n n (g9 _) an ed w;have uz:=Az uW;have AT:=Mf uz (n*aG.size);rw [U,ai8] at cO AT
 obtain ⟨ar,hle,aA,kZ⟩:=rQ aJ.wf (.cells (madeCells aG.zero.cells n) e (0,0)) (.box e (ab' n z)) (fun w' iK au fs=>⟨_,iK,by
  rw [AT];exact bJ.replicate (qC bE) n,fun o aD=>absurd (aJ.wf.lt _ _ aD) ag⟩)
 refine ⟨.slice (some ⟨w.heap.size,0,none⟩) n n,_,_,p,_,?_,hle,aA,kZ,⟨w.heap.size,rfl,rfl,ar,I⟩,.hC _⟩;unfold execOp;rw [ah];simp only [ew,ff];exact gS cO
theorem aa.tz (aQ:bO P Γ) (I:Ok s L) {t e:TypeId} {x y:Operand} {it aG:bN} {nA p2:IntKind} {z:af} (n:Nat) (av:guardOf ops env o=some true) (ay:o.dst=some d) (aT:aa' d N=true) (ah:o.op = .makeSlice t x y) (aL:Γ.get? t=some it) (bq:it.bH = .aB e) (bL:Γ.get? e=some aG) (U:aG.size=1)
  (uW:aG.zero.oneCell'=true) (bE:hD aG.zero=some z) (ab:aK env x=some (.int nA (n:Int))) (ax:aK env y=some (.int p2 (n:Int))) (an:n*aG.bytes≤140737488355328) (ed:n≤9223372036854775807)
  (h:∀ b,Ok s ((.own b,.box e (ab' n z))::L)→aa P N ops l Q ((d,eh b n n)::env) (aS s ((.own b,.box e (ab' n z))::L))):aa P N ops (o::l) Q env (aS s L):=by
 refine aa.op av ay aT (a6.tz aQ I n ah aL bq bL U uW bE ab ax an ed (X:=fun _ _=>False)) ?_ (fun _ _ h=>h.elim);rintro r ak ⟨b,rfl,rfl,ad⟩;exact h b ad
theorem a6.Hc (aQ:bO P Γ) (I:Ok s L) {t e:TypeId} {x y:Operand} {it aG:bN} {nA p2:IntKind} {z:af} (n c:Nat) (ah:o.op = .makeSlice t x y) (aL:Γ.get? t=some it) (bq:it.bH = .aB e) (bL:Γ.get? e=some aG) (U:aG.size=1)
  (uW:aG.zero.oneCell'=true) (bE:hD aG.zero=some z) (ab:aK env x=some (.int nA (n:Int))) (ax:aK env y=some (.int p2 (c:Int))) (p3:n≤c) (an:c*aG.bytes≤140737488355328) (ed:c≤9223372036854775807) {X:af→al→Prop} :
  a6 P N o env (aS s L) (fun r ak=>∃ b,r = .aB 1 (ab' n z) (.own b)∧ak=aS s ((.own b,.row e 1 n)::L)∧Ok s ((.own b,.row e 1 n)::L)) X:=by
 refine a6.ku ja fun ro B a w p aJ=>?_
 have gd:=aJ.aK ab;have fj:=aJ.aK ax;generalize ew:a.eval x=dQ at gd;generalize ff:a.eval y=fY at fj;cases gd;cases fj;have cO:=Mg aQ aL bq bL nA p2 n c p3 an ed w;have uz:=Az uW;have AT:=Mf uz (c*aG.size);rw [U,ai8] at cO AT
 obtain ⟨bj,dT,dh,dJ,mP,td⟩:=U' (e:=e) (sz:=1) (cap:=c) (cur:=madeCells aG.zero.cells c) aJ.wf (bJ.replicate (qC (w:=w) (p:=p) bE) n) (fun v au=>by
  obtain ⟨_,rfl⟩:=au4.1 au
  rw [uz];rfl) (by rw [size_madeCells,ai8]) (by
  rw [AT,ag1,ai8,List.take_replicate,tq (fun v au=>by obtain ⟨_,rfl⟩:=au4.1 au;exact uW),am6 p3]) (by rw [ag1];exact p3) uO
 rw [ag1] at dJ mP td;refine ⟨.slice (some ⟨w.heap.size,0,none⟩) n c,_,_,bj,_,?_,dh,dJ,mP,⟨w.heap.size,rfl,rfl,dT,I⟩,td⟩;unfold execOp;rw [ah];simp only [ew,ff];exact gS cO
theorem aa.Hc (aQ:bO P Γ) (I:Ok s L) {t e:TypeId} {x y:Operand} {it aG:bN} {nA p2:IntKind} {z:af} (n c:Nat) (av:guardOf ops env o=some true) (ay:o.dst=some d) (aT:aa' d N=true) (ah:o.op = .makeSlice t x y) (aL:Γ.get? t=some it) (bq:it.bH = .aB e) (bL:Γ.get? e=some aG) (U:aG.size=1)
  (uW:aG.zero.oneCell'=true) (bE:hD aG.zero=some z) (ab:aK env x=some (.int nA (n:Int))) (ax:aK env y=some (.int p2 (c:Int))) (p3:n≤c) (an:c*aG.bytes≤140737488355328) (ed:c≤9223372036854775807)
  (h:∀ b,Ok s ((.own b,.row e 1 n)::L)→aa P N ops l Q ((d,.aB 1 (ab' n z) (.own b))::env) (aS s ((.own b,.row e 1 n)::L))):aa P N ops (o::l) Q env (aS s L):=by
 refine aa.op av ay aT (a6.Hc aQ I n c ah aL bq bL U uW bE ab ax p3 an ed (X:=fun _ _=>False)) ?_ (fun _ _ h=>h.elim);rintro r ak ⟨b,rfl,rfl,ad⟩;exact h b ad
end
def Mh (P:Program) {α:Type} (dN a2:α→af) (oh:α→Prop) (l:Nat) (Go:List α→a8→Prop) (fB:a8→Prop) (fL:af→a8→Prop):Prop:=
 ∀ x rem K,Go (x::rem) K→di P (lU l) [dN x,a2 x] K (fun o aP=>(o = .ret (.bool true)∧oh x∧Go rem aP)∨(o = .ret (.bool false)∧fB aP)∨∃ v,o = .panic v∧fL v aP)
def Hd (P:Program) (f:FuncId) (first cap:List af) (m0:a8) {α:Type} (dN a2:α→af) (oh:α→Prop) (xs:List α):Prop:=
 ∀ (l:Nat) (Go:List α→a8→Prop) (fB:a8→Prop) (fL:af→a8→Prop),Mh P dN a2 oh l Go fB fL→∀ K,Go xs K →
  bF P f (first++([lU l]++cap)) (m0++K) (fun o aP=>(o = .ret (.cu [])∧(Go [] aP∨fB aP))∨∃ v,o = .panic v∧fL v aP)
section
variable {P:Program} {N:Nat} {Q:b6→Env→al→Prop} {env:Env} {s:al} {L R:a8}
theorem ae.Mi {α:Type} {dN a2:α→af} {oh:α→Prop} {xs:List α} {t u:Tmp} {g:Operand} {hd body:Code} {f:FuncId} {first cap:List af} {m0:a8} (I:Ok s L) (av:aK env g=some (.func f first cap)) (aT:t<N) (eJ:u<N)
  (ob:Hd P f first cap m0 dN a2 oh xs) (ar:aI L m0 R) (aen:List α→a8→Prop) (J:Code→a8→Prop) (tv:af→a8→Prop) (bu:aen xs R)
  (sU:∀ s x rem K,aen (x::rem) K→Ok s K→ae P N hd (b6.andThen (ae P N body (C8 (At s (fun K=>oh x∧aen rem K)) (fun j=>At s (J j)) (fun v=>At s (tv v)))) (fun _ _ _=>False)) ((u,a2 x)::(t,dN x)::env) (aS s K))
  (az:∀ K,aen [] K→Ok s K→Q .normal env (aS s K))
  (aH:∀ j K,J j K→Ok s K→ae P N j Q env (aS s K))
  (ab:∀ v K,tv v K→Ok s K→Q (.panic v) env (aS s K)):ae P N (.rangeFunc g #[t,u] hd body) Q env (aS s L):=by
 refine ae.Ld av (by intro bK cW;simp at cW;rcases cW with rfl|rfl;exact aT;exact eJ) fun l r aE GM=>?_
 have GN:Ok s ((.own l,.loop r env)::L):=⟨aE,I⟩;have o7:Mh P dN a2 oh l (fun rem K=>∃ aP,K=(.own l,.loop r env)::aP∧aen rem aP) (fun K=>∃ j aP,K=(.own l,.loop (qU r j) env)::aP∧J j aP) (fun v K=>∃ aP,K=(.own l,.loop (busy r) env)::aP∧tv v aP):=by
  rintro x rem _ ⟨K,rfl,aq⟩ ak AD;refine (GM [dN x,a2 x] _ (At ak (fun K=>oh x∧aen rem K)) (fun j=>At ak (J j)) (fun v=>At ak (tv v)) (al.gk _ _ _) C ?_).less ?_
  ·have:=al.zV (aS ak K) l (.loop r env) AD.1
   show ae P N hd _ _ (((aS ak K).set l (.loop r env)).del l);rw [this];exact sU ak x rem K aq AD.2
  ·have key:∀ {L K R:a8} {o:dC},aS ak L l=none→Ok ak L→aI L K R→al.Sub (aS ak ((.own l,o)::K)) ((aS ak L).set l o)∧Ok ak ((.own l,o)::K):=by
    intro L K R o U ad aj;exact (aI.cons bo.here aj).sub (L:=(.own l,o)::L) ⟨U,ad⟩
   rintro o eN (⟨rfl,dG,U,rfl,L,aP,R,rfl,ad,a',aj⟩|⟨rfl,j,dG,U,rfl,L,aP,R,rfl,ad,a',aj⟩|⟨v,dG,rfl,U,rfl,L,aP,R,rfl,ad,a',aj⟩)
   ·obtain ⟨cF,dj⟩:=key U ad a' (o := .loop r env)
    exact ⟨_,cF,(.own l,.loop r env)::aP,rfl,dj,.inl ⟨rfl,aj.1,aP,rfl,aj.2⟩⟩
   ·obtain ⟨cF,dj⟩:=key U ad a' (o := .loop (qU r j) env)
    exact ⟨_,cF,(.own l,.loop (qU r j) env)::aP,rfl,dj,.inr (.inl ⟨rfl,j,aP,rfl,aj⟩)⟩
   ·obtain ⟨cF,dj⟩:=key U ad a' (o := .loop (busy r) env)
    exact ⟨_,cF,(.own l,.loop (busy r) env)::aP,rfl,dj,.inr (.inr ⟨v,rfl,aP,rfl,aj⟩)⟩
 have cX:=(ob l _ _ _ o7 _ ⟨R,rfl,bu⟩).at GN ((ar.there (e:=(.own l,.loop r env))).app (aI.ei _));refine cX.mono ?_;rintro o eN ⟨M,rfl,iO,aP,rfl,h⟩;rw [d7] at iO ⊢;rcases h with ⟨rfl,⟨my,rfl,h⟩|⟨j,my,rfl,h⟩⟩|⟨v,rfl,my,rfl,h⟩
 ·exact .inl ⟨aS s my,iO.1,rfl,az my h iO.2⟩
 ·exact .inr ⟨j,aS s my,iO.1,rfl,aH j my h iO.2⟩
 ·exact ⟨aS s my,_,iO.1,rfl,ab v my h iO.2⟩
end
section
variable {J:al→Prop} {P:Program} {Γ:cy} {N:Nat} {l:List Oper} {i:Nat} {rest:List Oper} {Q:b6→Env→al→Prop} {env:Env} {s:al} {o:Oper} {d:Nat}
theorem aM.shl {t yt:TypeId} {x y:Operand} {k k':IntKind} {a b:Int} (r:Int) (av:c4 l env o) (ay:o.dst=some d) (aT:aa' d N=true) (ah:o.op = .binOp .shl t x y yt) (ab:aK (b2 l env o) x=some (.int k a)) (ax:aK (b2 l env o) y=some (.int k' b)) (an:0≤b) (aC:k.wrap (a*2^(min b.toNat k.bits))=r)
  (h:aM J P Γ N l (i+1) rest Q ((d,.int k r)::env) s):aM J P Γ N l i (o::rest) Q env s:=
 aM.calm av ay aT (fun _ _=>a6.shl ah ab ax an aC) h
theorem aM.shr {t yt:TypeId} {x y:Operand} {k k':IntKind} {a b:Int} (r:Int) (av:c4 l env o) (ay:o.dst=some d) (aT:aa' d N=true) (ah:o.op = .binOp .shr t x y yt) (ab:aK (b2 l env o) x=some (.int k a)) (ax:aK (b2 l env o) y=some (.int k' b)) (an:0≤b) (aC:a.fdiv (2^(min b.toNat k.bits))=r)
  (h:aM J P Γ N l (i+1) rest Q ((d,.int k r)::env) s):aM J P Γ N l i (o::rest) Q env s:=
 aM.calm av ay aT (fun _ _=>a6.shr ah ab ax an aC) h
theorem aM.bits {op:BinOp} {t yt:TypeId} {x y:Operand} {k:IntKind} {a b:Int} (r:Int) (av:c4 l env o) (ay:o.dst=some d) (aT:aa' d N=true) (ah:o.op = .binOp op t x y yt) (ab:aK (b2 l env o) x=some (.int k a)) (ax:aK (b2 l env o) y=some (.int k b)) (aC:bitsOf op k a b=some r)
  (h:aM J P Γ N l (i+1) rest Q ((d,.int k r)::env) s):aM J P Γ N l i (o::rest) Q env s:=
 aM.calm av ay aT (fun _ _=>a6.bits ah ab ax aC) h
end
section
variable {J:al→Prop} {P:Program} {Γ:cy} {N:Nat} {l:List Oper} {Q:b6→Env→al→Prop} {env:Env} {s:al} {o:Oper} {d m:Nat} {L R:a8}
theorem bm.mX (i:Nat) (aQ:bO P Γ) (I:Ok s L) {t dS e0:TypeId} {x y z:Operand} {it gI:bN} {b:Nat} {es du:List (af×af)} {k v:af} (aC:eK l.toArray m (idxs 0 l)=[i]) (ah:l.toArray[i]? = some o) (ay:o.dst=none)
  (av:c4 l env o) (bY:o.op = .mapUpdate t x y z∨o.op = .insert t x y z) (aL:Γ.get? t=some it) (bq:it.bH = .map dS e0) (jk:Γ.get? dS=some gI) (ab:aK (b2 l env o) x=some (.map b)) (ax:aK (b2 l env o) y=some k) (bE:aK (b2 l env o) z=some v)
  (ar:bo L (.own b) (.map es) R) (a7:j' gI.bH k=true) (aD:lR es k v=some du)
  (aH:Ok s ((.own b,.map du)::R)→J (aS s ((.own b,.map du)::R))∨kA l.toArray i=true)
  (h:Ok s ((.own b,.map du)::R)→bm J P Γ N l.toArray Q (bX (m|||2^i)) env (aS s ((.own b,.map du)::R))):bm J P Γ N l.toArray Q (bX m) env (aS s L):=
 bm.yi aC ah ay av (a6.mX aQ I bY aL bq jk ab ax bE ar a7 aD (X:=fun _ _=>False)) (fun x ak ⟨U,ad⟩=>by subst U;exact aH ad) (fun x ak ⟨U,ad⟩=>by subst U;exact h ad) (fun _ _ h=>h.elim)
end
section
variable {P:Program} {b:Frame} {a:Act} {k:List Item} {cs:List Frame} {w:World}
theorem AU {c:Code}:step P (lone (b.atR a (.code (.scope c)::k)) cs w) = .next (lone (b.atR a (.code c :: .inScope c::k)) cs w):=
 step_lone_go (by simp [stepG,stepG.exec,Frame.atR])
theorem Va {c:Code}:step P (lone (b.atR a (.inScope c::k)) cs w) = .next (lone (b.atR a k) cs w):=
 step_lone_go (by simp [stepG,stepG.exec,Frame.atR])
theorem Vb {Q:gZ→Act→World→Prop} {c:Code} (h:jN P b c Q a w):jN P b (.scope c) Q a w:=by
 intro k cs;obtain ⟨e,iI,w₁,bk,fW⟩:=h (.inScope c::k) cs;cases e with
 | normal=>exact ⟨.normal,iI,w₁,bk,.head AU (Steps.trans fW (.one Va))⟩
 | exit id=>
  refine ⟨.exit id,iI,w₁,bk,fun k' aA => .head AU (fW.1 k' (by simpa [exitTo] using aA)),fun aA=>?_⟩;obtain ⟨k₁,U,ad⟩:=fW.2 (by simpa [exitTo] using aA);exact ⟨k₁,U,.head AU ad⟩
 | ret=>obtain ⟨k₁,ar⟩:=fW;exact ⟨.ret,iI,w₁,bk,k₁,.head AU ar⟩
 | panic dA=>obtain ⟨k₁,ar⟩:=fW;exact ⟨.panic dA,iI,w₁,bk,k₁,.head AU ar⟩
theorem Vc {Q:gZ→Act→World→Prop} {l:Nat} (h:Q .normal a w):jN P b (.label l) Q a w:=
 fun _ _=>⟨.normal,a,w,h,.one stepR_label⟩
end
section
variable {P:Program} {N:Nat} {Q:b6→Env→al→Prop} {env:Env} {s:al}
theorem ae.scope {c:Code} (h:ae P N c Q env s):ae P N (.scope c) Q env s:=fun b B a w p eZ aJ=>Vb (h b B a w p eZ aJ)
theorem ae.label {l:Nat} (h:Q .normal env s):ae P N (.label l) Q env s:=fun _ _ _ _ _ _ aJ=>Vc (.here .normal h aJ)
end
def gW (g:List bw):af := .aB 4 (g.map e9) .bc
def mC:Option Int→List Int→Bool
 | _,[]=>true
 | none,x::r=>decide (x≥0)&&mC (some x) r
 | some p,x::r=>decide (x≥0)&&(decide (p<x)&&mC (some x) r)
theorem Mj:∀ (r:List Int) (x:Int),lz (x::r)=(decide (x≥0)&&mC (some x) r)
  | [],x=>by rw [lz,mC,Bool.and_true]
  | y::r,x=>by
    rw [lz,mC,Mj r y];cases decide (x<y)<;>cases decide (y≥0)<;>simp
theorem Mk (l:List Int):lz l=mC none l:=by
 cases l with
 | nil=>rfl
 | cons x r=>rw [Mj,mC]
theorem kk {len i:Nat} {x:bw} (h:x.atom ≠ -1):iA len i x=true↔0≤x.atom∧x.atom<7∧x.no>i∧x.no<len∧x.yes>i∧x.yes<len∧x.ms.length=0:=by
 unfold iA;rw [d9 h];simp
theorem m5 {len i:Nat} {x:bw} (h:x.atom = -1):iA len i x=true↔x.no=0∧x.yes=0∧x.ms.length≤16∧lz x.ms=true:=by
 unfold iA;rw [g6 h];simp
theorem He (g:List bw) (av:g.length<bB):aV d0 68 [gW g] (.bool (hn g)):=by
 have an:=bG;refine aV.bl ai Tryz.func68 C C fun s I=>?_
 unfold gW;have dw:hn g=hn g:=rfl
 conv at dw=>rhs;unfold hn
 refine dF ?_;by_cases g1:g.length=0
 ·refine aa.dy 10 C (by simp [g1]) ?_
  rw [show decide (1≤g.length)=false by simp [g1],f6] at dw;rw [dw];refine eg ?_;exact bA I
 refine aa.da 10 C (by simp;intro e;exact g1 (by rw [e];rfl)) ?_;rw [show decide (1≤g.length)=true by simp;omega,f5] at dw;refine fK ?_;refine ae.cond C (fun g2=>?_) (fun g2=>?_)
 ·rw [show decide (g.length≤300)=false by simp at g2 ⊢;omega,f6] at dw
  rw [dw];refine gT ?_;exact bA I
 have g2:g.length≤300:=by simp at g2;omega
 rw [g7 g2,f5] at dw;rw [dw];refine jG ?_;refine ae.b9 [0,15,16] C I (σ:=Nat) (fun j=>[(17,.int .i64 (j:Int))]) (fun _=>[]) (fun j=>j≤g.length∧m1 g.length 0 g=m1 g.length j (g.drop j)) (fun j=>g.length-j) 0 ⟨g8 _,rfl⟩ (cz C) a1 ?_;rintro j ⟨aH,aq⟩ I
 try simp only at aH aq I ⊢
 refine b8 ?_;refine ae.cond C (fun aw=>?_) (fun aY=>?_);rotate_left
 ·have aY:j=g.length:=by simp at aY;omega
  rw [eG ag,m1] at aq;rw [aq];refine ef ?_;exact bA I
 have aw:j<g.length:=by simpa using aw
 obtain ⟨x,ab,bP⟩:=b5 (f:=e9) aw;rw [drop_cons ab,m1] at aq;unfold e9 gL bg at bP
 repeat (first|(refine Au I ?_;clear I;intro I)|refine aa.dK ai I rfl rfl rfl rfl rfl rfl rfl (fun cA I=>?_))
 refine ae.cond C (fun aR=>?_) (fun aR=>?_)
 ·have aR:x.atom ≠ -1:=by simpa using aR
  refine cv I ?_;intro I;by_cases U:x.atom<0
  ·refine aa.dy 28 C (g7 U) ?_
   refine e8 ?_;rw [aq,show iA g.length j x=false from af5.2 (fun h=>by have:=(kk aR).1 h;omega),f6];skip;exact bA I
  refine aa.da 28 C (H1 U) ?_;refine cv I ?_;intro I;by_cases ad:x.atom≥7
  ·refine aa.dy 33 C (g7 ad) ?_
   refine e8 ?_;rw [aq,show iA g.length j x=false from af5.2 (fun h=>by have:=(kk aR).1 h;omega),f6];skip;exact bA I
  refine aa.da 33 C (H1 ad) ?_;refine cv I ?_;intro I;by_cases aj:(if x.yes<x.no then x.yes else x.no)≤(j:Int)
  ·refine aa.dy 42 C (g7 aj) ?_
   refine e8 ?_;rw [aq,show iA g.length j x=false from af5.2 (fun h=>by have:=(kk aR).1 h;omega),f6];skip;exact bA I
  refine aa.da 42 C (H1 aj) ?_;refine cv I ?_;intro I;by_cases a':(if x.yes>x.no then x.yes else x.no)≥(g.length:Int)
  ·refine aa.dy 52 C cP ?_
   refine e8 ?_;rw [aq,show iA g.length j x=false from af5.2 (fun h=>by have:=(kk aR).1 h;omega),f6];skip;exact bA I
  refine aa.da 52 C cP ?_;refine cv I ?_;intro I;refine ae.cond C (fun bz=>?_) (fun bz=>?_)
  ·have bz:x.ms.length≠0:=by simp at bz;omega
   rw [aq,show iA g.length j x=false from af5.2 (fun h=>by have:=(kk aR).1 h;omega),f6];refine js ?_;exact bA I
  have bz:x.ms.length=0:=by simp at bz;rw [bz];rfl
  rw [(kk aR).2 ag,f5] at aq;refine bD ?_;exact bp.mk (j+1) I ⟨aw,aq⟩ ck a1 wG
 have aR:x.atom = -1:=by simpa using aR
 refine cv I ?_;intro I;by_cases U:x.no=0;rotate_left
 ·refine aa.dy 61 C tp ?_
  refine e8 ?_;rw [aq,show iA g.length j x=false from af5.2 (fun h=>by have:=(m5 aR).1 h;omega),f6];skip;exact bA I
 refine aa.da 61 C tp ?_;refine cv I ?_;intro I;by_cases ad:x.yes=0;rotate_left
 ·refine aa.dy 66 C qu ?_
  refine e8 ?_;rw [aq,show iA g.length j x=false from af5.2 (fun h=>by have:=(m5 aR).1 h;omega),f6];skip;exact bA I
 refine aa.da 66 C qu ?_;refine cv I ?_;intro I;refine ae.cond C (fun aj=>?_) (fun aj=>?_)
 ·rw [aq,show iA g.length j x=false from af5.2 (fun h=>by have:=(m5 aR).1 h;simp at aj;omega),f6]
  refine js ?_;exact bA I
 have aj:x.ms.length≤16:=by simp at aj;omega
 refine cv I ?_;intro I;refine ae.b9 [0,15,16,17,4,73,74] C I (σ:=Nat) (fun k=>[(75,.int .i64 (k:Int))]) (fun _=>[(.own cA,.box 69 (gL x))]) (fun k=>k≤x.ms.length∧lz x.ms=mC (if k=0 then none else x.ms[k-1]?) (x.ms.drop k)) (fun k=>x.ms.length-k) 0 ⟨g8 _,Mk _⟩ (cz C) (by simp only [gL];exact a1) ?_;rintro k ⟨aA,bf⟩ I
 try simp only [gL,bg] at aA bf I ⊢
 refine b8 ?_;refine ae.cond C (fun cl=>?_) (fun dd=>?_);rotate_left
 ·have dd:k=x.ms.length:=by simp at dd;omega
  rw [eG ag,mC] at bf;rw [(m5 aR).2 ⟨U,ad,aj,bf⟩,f5] at aq;refine bD ?_;exact bp.mk (j+1) I ⟨aw,aq⟩ ck a1 wG
 have cl:k<x.ms.length:=by simpa using cl
 obtain ⟨y,ax,c7⟩:=b5 (f:=bb) cl;rw [drop_cons ax] at bf;unfold bb at c7;refine dL ?_;by_cases a':y<0
 ·refine aa.dy 82 C (g7 a') ?_
  have bf:lz x.ms=false:=by
   rw [bf];cases (if k=0 then none else x.ms[k-1]?)<;>rw [mC,show decide (y≥0)=false by simp;omega,f6]
  rw [aq,show iA g.length j x=false from af5.2 (fun h=>by have:=((m5 aR).1 h).2.2.2;rw [bf] at this;cases this),f6];refine e8 ?_;exact bA I
 refine aa.da 82 C (H1 a') ?_;have nr:decide (y≥0)=true:=by simp;omega
 cases k with
 | zero=>
  rw [g6 C,mC,nr,f5] at bf;refine bD ?_;exact bp.mk 1 I ⟨cl,by rw [d9 ag];simpa [ax] using bf⟩ Dn a1 (by show x.ms.length-1<x.ms.length-0;omega)
 | succ k=>
 rw [d9 ag,Nat.add_sub_cancel] at bf;obtain ⟨z,bE,tA⟩:=b5 (f:=bb) (show k<x.ms.length by omega);rw [bE,mC,nr,f5] at bf;unfold bb at tA;refine ep ?_;refine aa.dy 85 C ba ?_;refine cv I ?_;intro I;refine aa.idx ai k C C C C C C C C C C (by rw [ee ag ag];push_cast;omega) tA C ?_;refine fK ?_;refine ae.cond C (fun bz=>?_) (fun bz=>?_)
 ·rw [show decide (z<y)=false by simp at bz ⊢;omega,f6] at bf
  rw [aq,show iA g.length j x=false from af5.2 (fun h=>by have:=((m5 aR).1 h).2.2.2;rw [bf] at this;cases this),f6];refine js ?_;exact bA I
 rw [show decide (z<y)=true by simp at bz ⊢;omega,f5] at bf;refine gr ?_;exact bp.mk (k+2) I ⟨cl,by rw [d9 ag];simpa [ax] using bf⟩ Aw a1 (by show x.ms.length-(k+2)<x.ms.length-(k+1);omega)
section
variable {P:Program} {Γ:cy} {N:Nat} {ops:Array Oper} {Q:b6→Env→al→Prop} {env:Env} {s:al} {l:List Oper} {o:Oper} {d:Nat} {L R:a8}
theorem Ml (aQ:bO P Γ) {w:World} {p:bU} {S:al} (cg:dq w p S) {t bK e ty:TypeId} {it cx aG:bN} {bV:Nat} {olds:List Value} {xs ys:List af} {dm:bQ} {base:Option Addr} {n cap:Nat} {q0:Value}
  (aL:Γ.get? t=some it) (bq:it.bH = .aB e) (cW:Γ.get? bK=some cx) (dr:∀ k,cx.bH ≠ .int k) (bL:Γ.get? e=some aG) (U:aG.size=1) (dO:af2 aG.zero.cells.size aG.size=true)
  (aC:bJ w p olds xs) (az:n=xs.length) (s8:(Builtin.firstCells 1 n (.slice base n cap)).run P w.drew = .ok olds.toArray w.drew) (ax:Rel w p q0 (.aB bV ys dm)) (c6:bV=1) (dH:ys.all e7=true)
  (aw:cap<n+ys.length) (an:(n+ys.length)*aG.bytes≤140737488355328) (ed:n+ys.length≤9223372036854775807) :
  ∃ aW ch cs' w',(Builtin.append_ #[t,bK] ty #[.slice base n cap,q0]).run P w = .ok (.slice (some ⟨aW,0,none⟩) (n+ys.length) ch) w'∧S aW=none∧dc w p w' p∧Kept S (S.set aW (.box e cs')) w p w' p∧dq w' p (S.set aW (.box e cs')) ∧
   cs'.length=ch∧n+ys.length≤ch∧cs'.take (n+ys.length)=xs++ys:=by
 obtain ⟨info,d,g1,g2,g3,-⟩:=aQ.parts aL;obtain ⟨mM,c2,dT,dh,dJ,-⟩:=aQ.parts cW;obtain ⟨jO,kv,cF,dj,fe,eI,jP,jl⟩:=aQ.parts bL;have ay:d = .slice e:=by rw [bq] at g3;cases d<;>simp [ev] at g3;rw [g3]
 subst ay;have cq:∀ k,c2 ≠ .int k:=fun k e'=>by subst e';exact dr k dJ.symm
 obtain ⟨us,ie,pO,jQ,ke,s',ta,tb⟩:=qG ax (.inr c6);have mQ:=ie.length;subst c6;have tr:flat us=us:=tq (qE ie dH);have fz:=growslice_fits (need:=n+ys.length) (old:=cap) (bytes:=aG.bytes) aw an;have cO:=zZ (ty:=ty) w g2 dh cq cF jl (base:=base) (sLen:=n) (sCap:=cap) (m:=ys.length) (olds:=olds) (news:=us) (jQ P)
  (by rw [eI,U];exact s8) (by rw [eI,U];(conv=>rhs;rw [← tr]);exact ke P w.drew (fun _ _ _=>rfl)) aw ag (by rw [jP];exact fz)
 have nx:n+ys.length≤grownCap w (n+ys.length) cap e:=by simp [grownCap,Question.cut]
 have gz:olds.length=n:=by rw [aC.length,az]
 have oT:=ae0 dO;generalize s9:(Builtin.zeroCells aG.zero.cells (grownCap w (n+ys.length) cap e-(n+ys.length))).toList=aZ at cO;have mm:aZ.length=grownCap w (n+ys.length) cap e-(n+ys.length):=by
  rw [← s9,ae9];simp [Builtin.zeroCells,oT,U]
 generalize grownCap w (n+ys.length) cap e=G at cO nx mm;have wI:=x8 cg
 obtain ⟨ar,hle,aA,kZ⟩:=rQ wI (.cells (olds++us++aZ).toArray e (0,0)) (.box e (xs++ys++aZ.map fun _ => .any)) (fun w' iK au fs=>⟨_,iK,by
  refine bJ.append (bJ.append (fs _ _ (show bJ w.drew p olds xs from aC.mono kU)) (fs _ _ (ie.mono kU))) (bJ.Ay aZ),fun o aD=>absurd (cg.lt _ _ aD) (by show ¬ w.heap.size<w.heap.size;omega)⟩)
 rw [show w.drew.heap.size=w.heap.size from rfl] at ar aA kZ;refine ⟨w.heap.size,G,xs++ys++aZ.map (fun _=>af.any),_,cO,ar,kU.trans hle,(vQ (w:=w) (p:=p)).trans (kU (w:=w) (p:=p)).size aA,kZ,?_,nx,?_⟩
 ·simp only [f8,f0,mm];omega
 ·rw [ah6 cP,ag8 cP]
theorem a6.Hf (aQ:bO P Γ) (I:Ok s L) {t bK e:TypeId} {x y:Operand} {it cx aG:bN} {dU bV:Nat} {ys:List af} {dm:bQ}
  (ah:o.op = .call { callee := .builtin .append,args := #[x,y],argTypes := #[t,bK] }) (aL:Γ.get? t=some it) (bq:it.bH = .aB e) (cW:Γ.get? bK=some cx) (dr:∀ k,cx.bH ≠ .int k)
  (bL:Γ.get? e=some aG) (U:aG.size=1) (dO:af2 aG.zero.cells.size aG.size=true) (ab:aK env x=some (.aB dU [] .nil)) (ax:aK env y=some (.aB bV ys dm)) (c6:bV=1) (dH:ys.all e7=true) (cE:1≤ys.length) (an:ys.length*aG.bytes≤140737488355328) (ed:ys.length≤9223372036854775807)
  {X:af→al→Prop}:a6 P N o env (aS s L) (fun r ak=>Grown s L e ys.length ys r ak) X:=by
 refine a6.ku ja fun ro B a w p aJ=>?_
 have gd:=aJ.aK ab;have fj:=aJ.aK ax;have eP:=fun val w'=>uP (P:=P) (a:=a) (val:=val) (w:=w) (w':=w') ah
 generalize ew:a.eval x=dQ at gd eP;generalize ff:a.eval y=fY at fj eP;have ts:dQ = .slice none 0 0:=by
  cases gd with
  | hV=>rfl
  | ir a _ _ h=>rcases h with h|h<;>cases h
  | aB g off n cap _ vs _ _ az=>exact absurd C az
 subst ts
 obtain ⟨aW,ch,cs',w',fr,gx,hv,iY,mn,mo,mY,mZ⟩:=Ml (ty:=o.type) aQ aJ.wf (base:=none) (n:=0) (cap:=0) (olds:=[]) (xs:=[]) aL bq cW dr bL U dO .nil rfl (by
  have:=run_firstCells_none (P:=P) w.drew 1 0 0 0
  simpa using this) fj c6 dH ag (by simpa using an) ag
 rw [af8] at fr mY mZ;exact ⟨_,w',_,p,_,eP _ _ fr,hv,iY,mn,⟨aW,ch,cs',rfl,rfl,⟨gx,I⟩,mo,mY,by simpa using mZ⟩,.hC _⟩
theorem a6.Hg (aQ:bO P Γ) (I:Ok s L) {t bK e:TypeId} {x y:Operand} {it cx aG:bN} {b n cap bV:Nat} {cs ys:List af} {dm:bQ}
    (ah:o.op = .call { callee := .builtin .append,args := #[x,y],argTypes := #[t,bK] }) (aL:Γ.get? t=some it) (bq:it.bH = .aB e) (cW:Γ.get? bK=some cx) (dr:∀ k,cx.bH ≠ .int k)
    (bL:Γ.get? e=some aG) (U:aG.size=1) (dO:af2 aG.zero.cells.size aG.size=true) (ab:aK env x=some (eh b n cap)) (ar:bo L (.own b) (.box e cs) R) (cj:cs.length=cap) (az:n≤cap) (iv:(cs.take n).all e7=true)
    (ax:aK env y=some (.aB bV ys dm)) (c6:bV=1) (dH:ys.all e7=true) (an:(n+ys.length)*aG.bytes≤140737488355328) (ed:n+ys.length≤9223372036854775807)
    {X:af→al→Prop}:a6 P N o env (aS s L) (fun r ak=>Grown s R e (n+ys.length) (cs.take n++ys) r ak) X:=by
  obtain ⟨cd,b1,ek⟩:=ar.perm I;refine a6.ku ja fun ro B a w p aJ=>?_
  have gd:=aJ.aK ab;have fj:=aJ.aK ax;have eP:=fun val w'=>uP (P:=P) (a:=a) (val:=val) (w:=w) (w':=w') ah
  generalize ew:a.eval x=dQ at gd eP;generalize ff:a.eval y=fY at fj eP;cases gd;obtain ⟨vs,cQ,cV,e3⟩:=aJ.wf.obj _ _ (ar.get I);have fs:vs.toList.length=cap:=by rw [cV.length,cj]
  have hl:=cV.take n;have wJ:=qE hl iv;have pQ:∀ w':World,(∀ j,w'.cell? ⟨b,j,none⟩=w.cell? ⟨b,j,none⟩)→(Builtin.firstCells 1 n (.slice (some ⟨b,0,none⟩) n cap)).run P w' = .ok (vs.toList.take n).toArray w':=by
    intro w' iK;refine run_firstCells_some (P:=P) w' 1 n ⟨b,0,none⟩ n cap (vs.toList.take n) (by rw [ae8,fs];omega) (fun j u hu=>?_);rw [lo,af8,iK,jE cQ];rw [ai2] at hu;split at hu
    · simpa using hu
    · cases hu
  by_cases aw:cap<n+ys.length
  · obtain ⟨aW,ch,cs',w',fr,gx,hv,iY,mn,mo,mY,mZ⟩:=Ml (ty:=o.type) aQ aJ.wf (base:=some ⟨b,0,none⟩) (n:=n) (cap:=cap) (olds:=vs.toList.take n) (xs:=cs.take n) aL bq cW dr bL U dO hl x1
      (pQ w.drew fun _=>rfl) fj c6 dH aw an ed
    have fX:al.Sub ((aS s R).set aW (.box e cs')) ((aS s L).set aW (.box e cs')):=by
      refine Di (k := .own aW) ?_;rw [cd];exact yn (k := .own b) (al.oU _) b1
    have av:aS s R aW=none:=by
      have h:=gx;rw [cd] at h;exact (al.uA h).2
    exact ⟨_,w',_,p,_,eP _ _ fr,hv,iY.sub fX,mn.sub fX,⟨aW,ch,cs',rfl,rfl,⟨av,ek⟩,mo,mY,mZ⟩,.hC _⟩
  · obtain ⟨info,d,g1,g2,g3,-⟩:=aQ.parts aL
    obtain ⟨mM,c2,dT,dh,dJ,-⟩:=aQ.parts cW;obtain ⟨jO,kv,cF,dj,fe,eI,jP,jl⟩:=aQ.parts bL;have ay:d = .slice e:=by rw [bq] at g3;cases d<;>simp [ev] at g3;rw [g3]
    subst ay;have cq:∀ k,c2 ≠ .int k:=fun k e'=>by subst e';exact dr k dJ.symm
    subst c6;obtain ⟨us,ie,pO,jQ,ke,s',ta,tb⟩:=qG (sz':=1) fj (.inr rfl);have mQ:=ie.length;have mx:∀ x∈us,x.oneCell'=true:=qE ie dH;have tr:flat us=us:=tq mx;have eO:vs.size=cap:=by rw [← ae9];exact fs
    have cO:=CQ (ty:=o.type) (P:=P) w g2 dh cq cF b n cap vs cQ (xv:=fY) (m:=ys.length) (news:=us) (jQ P) (by rw [eI,U];(conv=>rhs;rw [← tr]);exact ke P w (fun _ _ _=>rfl)) mx ag (by rw [eI,U,eO];omega);rw [eI,U,ai8] at cO;have hg:bJ w p (vs.toList.take n++us++vs.toList.drop (n+us.length)) (cs.take n++ys++cs.drop (n+us.length)):=bJ.append (bJ.append hl ie) (cV.drop _);have cc:(aS s L) b=some (.box e cs):=ar.get I
    obtain ⟨dn,ig,iz⟩:=vY aJ.wf cc (vs':=(vs.toList.take n++us++vs.toList.drop (n+us.length)).toArray) (cs':=cs.take n++ys++cs.drop (n+us.length)) (fun AA bu=>by
      rw [cQ] at bu;cases bu
      simp only [an3,f8,ae8,ai5,fs]
      rw [eO];omega) (by simpa using hg) _ C
    obtain ⟨f1,f2⟩:=ar.put (.box e (cs.take n++ys++cs.drop (n+us.length))) I;refine ⟨_,_,_,p,_,eP _ _ cO,dn,ig,iz,⟨b,cap,cs.take n++ys++cs.drop (n+us.length),rfl,f1,f2,?_,by omega,?_⟩,.hC _⟩
    · simp only [f8,ae8,ai5,cj];omega
    · have:(cs.take n++ys).length=n+ys.length:=by simp [cj];omega
      rw [ah6 ag,ag8 ag]
theorem a6.Hh (aQ:bO P Γ) {t bK e:TypeId} {x y:Operand} {it cx aG:bN} {dU bV:Nat} {dm:bQ}
  (ah:o.op = .call { callee := .builtin .append,args := #[x,y],argTypes := #[t,bK] }) (aL:Γ.get? t=some it) (bq:it.bH = .aB e) (cW:Γ.get? bK=some cx) (dr:∀ k,cx.bH ≠ .int k)
  (bL:Γ.get? e=some aG) (ab:aK env x=some (.aB dU [] .nil)) (ax:aK env y=some (.aB bV [] dm)) {X:af→al→Prop}:a6 P N o env s (fun r ak=>r = .aB 0 [] .nil∧ak=s) X:=by
 refine a6.ku ja fun ro B a w p aJ=>?_
 have gd:=aJ.aK ab;have fj:=aJ.aK ax;have eP:=fun val w'=>uP (P:=P) (a:=a) (val:=val) (w:=w) (w':=w') ah
 generalize ew:a.eval x=dQ at gd eP;generalize ff:a.eval y=fY at fj eP;have ts:dQ = .slice none 0 0:=by
  cases gd with
  | hV=>rfl
  | ir a _ _ h=>rcases h with h|h<;>cases h
  | aB g off n cap _ vs _ _ az=>exact absurd C az
 subst ts;obtain ⟨info,d,g1,g2,g3,-⟩:=aQ.parts aL;obtain ⟨mM,c2,dT,dh,dJ,-⟩:=aQ.parts cW;obtain ⟨jO,kv,cF,dj,fe,eI,jP,jl⟩:=aQ.parts bL;have ay:d = .slice e:=by rw [bq] at g3;cases d<;>simp [ev] at g3;rw [g3]
 subst ay;have cq:∀ k,c2 ≠ .int k:=fun k e'=>by subst e';exact dr k dJ.symm
 obtain ⟨us,ie,pO,jQ,ke,s',ta,tb⟩:=qG (sz':=aG.size) fj (.inl rfl);cases ie;have aE:=jQ P;have a7:=ke P w (fun _ _ _=>rfl);rw [List.length_nil] at aE a7;have bE:(match c2 with | .int _=>true|_=>false)=false:=by cases c2<;>first|rfl|exact absurd C (cq _)
 have cO:(Builtin.append_ #[t,bK] o.type #[.slice none 0 0,fY]).run P w = .ok (.slice none 0 0) w:=by
  simp [Builtin.append_,run_underlying g2,run_underlying dh,sizeOf,typeInfo,cF,eI,bE,aE,a7]
 exact ⟨_,w,s,p,_,eP _ _ cO,.refl w p,.refl s w p,aJ.wf,⟨rfl,rfl⟩,.hV _ _ (fun _=>by simp)⟩
theorem aa.Hh (aQ:bO P Γ) {t bK e:TypeId} {x y:Operand} {it cx aG:bN} {dU bV:Nat} {dm:bQ} (av:guardOf ops env o=some true) (ay:o.dst=some d) (aT:aa' d N=true)
  (ah:o.op = .call { callee := .builtin .append,args := #[x,y],argTypes := #[t,bK] }) (aL:Γ.get? t=some it) (bq:it.bH = .aB e) (cW:Γ.get? bK=some cx) (dr:∀ k,cx.bH ≠ .int k)
  (bL:Γ.get? e=some aG) (ab:aK env x=some (.aB dU [] .nil)) (ax:aK env y=some (.aB bV [] dm)) (h:aa P N ops l Q ((d,.aB 0 [] .nil)::env) s):aa P N ops (o::l) Q env s:=
 aa.op av ay aT (a6.Hh aQ ah aL bq cW dr bL ab ax (X:=fun _ _=>False)) (fun x ak ⟨U,ad⟩=>by subst U;subst ad;exact h) (fun _ _ h=>h.elim)
theorem aa.Hf (aQ:bO P Γ) (I:Ok s L) {t bK e:TypeId} {x y:Operand} {it cx aG:bN} {dU bV:Nat} {ys:List af} {dm:bQ} (av:guardOf ops env o=some true) (ay:o.dst=some d) (aT:aa' d N=true)
  (ah:o.op = .call { callee := .builtin .append,args := #[x,y],argTypes := #[t,bK] }) (aL:Γ.get? t=some it) (bq:it.bH = .aB e) (cW:Γ.get? bK=some cx) (dr:∀ k,cx.bH ≠ .int k)
  (bL:Γ.get? e=some aG) (U:aG.size=1) (dO:af2 aG.zero.cells.size aG.size=true) (ab:aK env x=some (.aB dU [] .nil)) (ax:aK env y=some (.aB bV ys dm)) (c6:bV=1) (dH:ys.all e7=true) (cE:1≤ys.length) (an:ys.length*aG.bytes≤140737488355328) (ed:ys.length≤9223372036854775807)
  (h:∀ aW ch cs',cs'.length=ch→ys.length≤ch→cs'.take ys.length=ys→Ok s ((.own aW,.box e cs')::L)→aa P N ops l Q ((d,eh aW ys.length ch)::env) (aS s ((.own aW,.box e cs')::L))):aa P N ops (o::l) Q env (aS s L):=by
 refine aa.op av ay aT (a6.Hf aQ I ah aL bq cW dr bL U dO ab ax c6 dH cE an ed (X:=fun _ _=>False)) ?_ (fun _ _ h=>h.elim);rintro r ak ⟨aW,ch,cs',rfl,rfl,ad,aj,a',bz⟩;exact h aW ch cs' aj a' bz ad
theorem aa.Hg (aQ:bO P Γ) (I:Ok s L) {t bK e:TypeId} {x y:Operand} {it cx aG:bN} {b n cap bV:Nat} {cs ys:List af} {dm:bQ} (av:guardOf ops env o=some true) (ay:o.dst=some d) (aT:aa' d N=true)
  (ah:o.op = .call { callee := .builtin .append,args := #[x,y],argTypes := #[t,bK] }) (aL:Γ.get? t=some it) (bq:it.bH = .aB e) (cW:Γ.get? bK=some cx) (dr:∀ k,cx.bH ≠ .int k)
  (bL:Γ.get? e=some aG) (U:aG.size=1) (dO:af2 aG.zero.cells.size aG.size=true) (ab:aK env x=some (eh b n cap)) (ar:bo L (.own b) (.box e cs) R) (cj:cs.length=cap) (az:n≤cap) (iv:(cs.take n).all e7=true)
  (ax:aK env y=some (.aB bV ys dm)) (c6:bV=1) (dH:ys.all e7=true) (an:(n+ys.length)*aG.bytes≤140737488355328) (ed:n+ys.length≤9223372036854775807)
  (h:∀ aW ch cs',cs'.length=ch→n+ys.length≤ch→cs'.take (n+ys.length)=cs.take n++ys→Ok s ((.own aW,.box e cs')::R)→aa P N ops l Q ((d,eh aW (n+ys.length) ch)::env) (aS s ((.own aW,.box e cs')::R))):aa P N ops (o::l) Q env (aS s L):=by
 refine aa.op av ay aT (a6.Hg aQ I ah aL bq cW dr bL U dO ab ar cj az iv ax c6 dH an ed (X:=fun _ _=>False)) ?_ (fun _ _ h=>h.elim);rintro r ak ⟨aW,ch,cs',rfl,rfl,ad,aj,a',bz⟩;exact h aW ch cs' aj a' bz ad
end
section
variable {P:Program} {Γ:cy} {N:Nat} {ops:Array Oper} {Q:b6→Env→al→Prop} {env:Env} {s:al} {l:List Oper} {o:Oper} {d:Nat} {L R:a8}
def sb (b off n cap:Nat):af := .hC (.slice (some ⟨b,off,none⟩) n cap)
theorem Mm {t bK:TypeId} {x y:Operand} {a:Act} {val:Value} {w w':World} (ah:o.op = .call { callee := .builtin .copy,args := #[x,y],argTypes := #[t,bK] }) (h:(Builtin.copy_ #[t,bK] o.type #[a.eval x,a.eval y]).run P w = .ok val w') :
  (execOp a.eval o).run P w = .ok (.value val) w':=by
 unfold execOp;rw [ah];simp only [resolve,invoke,builtin,ac',ae5,i5,ar7,ae2,ah2,h]
theorem Mn (I:Ok s L) {w:World} {p:bU} {b off:Nat} {e:TypeId} {cs ys:List af} {us:List Value} {vs:Array Value} (cg:dq w p (aS s L)) (ar:bo L (.own b) (.box e cs) R) (cQ:w.heap[b]? = some (.cells vs e (0,0))) (cV:bJ w p vs.toList cs) (hu:bJ w p us ys) (fz:off+ys.length≤cs.length) :
  dc w p (w.setRow b (vs.toList.take off++us++vs.toList.drop (off+us.length)).toArray) p∧Kept (aS s L) (aS s ((.own b,.box e (cs.take off++ys++cs.drop (off+ys.length)))::R)) w p (w.setRow b (vs.toList.take off++us++vs.toList.drop (off+us.length)).toArray) p ∧
   dq (w.setRow b (vs.toList.take off++us++vs.toList.drop (off+us.length)).toArray) p (aS s ((.own b,.box e (cs.take off++ys++cs.drop (off+ys.length)))::R))∧Ok s ((.own b,.box e (cs.take off++ys++cs.drop (off+ys.length)))::R):=by
 have mQ:=hu.length;have qI:=cV.length;have hg:bJ w p (vs.toList.take off++us++vs.toList.drop (off+us.length)) (cs.take off++ys++cs.drop (off+ys.length)):=by
  rw [mQ];exact bJ.append (bJ.append (cV.take _) hu) (cV.drop _)
 obtain ⟨dn,ig,iz⟩:=vY cg (ar.get I) (vs':=(vs.toList.take off++us++vs.toList.drop (off+us.length)).toArray) (cs':=cs.take off++ys++cs.drop (off+ys.length)) (fun AA bu=>by
  rw [cQ] at bu;cases bu
  rw [ae9] at qI
  simp only [an3,f8,ae8,ai5,ae9]
  omega) (by simpa using hg) _ C
 obtain ⟨f1,f2⟩:=ar.put (.box e (cs.take off++ys++cs.drop (off+ys.length))) I;rw [f1] at ig iz;exact ⟨dn,ig,iz,f2⟩
theorem a6.Hi (aQ:bO P Γ) (I:Ok s L) {t bK e:TypeId} {x y:Operand} {it aG:bN} {b off dl q7 bV:Nat} {cs ys:List af} {dm:bQ}
  (ah:o.op = .call { callee := .builtin .copy,args := #[x,y],argTypes := #[t,bK] }) (aL:Γ.get? t=some it) (bq:it.bH = .aB e) (bL:Γ.get? e=some aG) (U:aG.size=1) (ab:aK env x=some (sb b off dl q7)) (ar:bo L (.own b) (.box e cs) R)
  (ax:aK env y=some (.aB bV ys dm)) (c6:bV=1) (dH:ys.all e7=true) (ay:ys.length≤dl) (fz:off+ys.length≤cs.length) {X:af→al→Prop} :
  a6 P N o env (aS s L) (fun r ak=>r = .int .i64 ys.length∧ak=aS s ((.own b,.box e (cs.take off++ys++cs.drop (off+ys.length)))::R)∧Ok s ((.own b,.box e (cs.take off++ys++cs.drop (off+ys.length)))::R)) X:=by
 refine a6.ku ja fun ro B a w p aJ=>?_
 have gd:=aJ.aK ab;have fj:=aJ.aK ax;have eP:=fun val w'=>Mm (P:=P) (a:=a) (val:=val) (w:=w) (w':=w') ah
 generalize ew:a.eval x=dQ at gd eP;generalize ff:a.eval y=fY at fj eP;cases gd;obtain ⟨info,d,g1,g2,g3,-⟩:=aQ.parts aL;obtain ⟨jO,kv,cF,dj,fe,eI,jP,jl⟩:=aQ.parts bL;have cq:d = .slice e:=by rw [bq] at g3;cases d<;>simp [ev] at g3;rw [g3]
 subst cq;subst c6;obtain ⟨us,ie,pO,jQ,ke,s',ta,tb⟩:=qG (sz':=1) fj (.inr rfl);have mQ:=ie.length;have mx:∀ x∈us,x.oneCell'=true:=qE ie dH;have tr:flat us=us:=tq mx;obtain ⟨vs,cQ,cV,e3⟩:=aJ.wf.obj _ _ (ar.get I);have qI:=cV.length;rw [ae9] at qI;have aE:=jQ P;have a7:=ke P w (fun _ _ _=>rfl);rw [tr] at a7;have wz:=run_storeCells_at P b off e us 0 vs w cQ ag mx;simp only [Nat.add_zero] at wz;have Vd:Nat.min ys.length dl=ys.length:=am6 ay;have cO:(Builtin.copy_ #[t,bK] o.type #[.slice (some ⟨b,off,none⟩) dl q7,fY]).run P w = .ok (.int .i64 ys.length) (w.setRow b (vs.toList.take off++us++vs.toList.drop (off+us.length)).toArray):=by
  simp [Builtin.copy_,run_underlying g2,sizeOf,typeInfo,cF,eI,U,aE,Vd,a7,wz,goInt]
 obtain ⟨dT,dh,dJ,mP⟩:=Mn I aJ.wf ar cQ cV ie fz;exact ⟨_,_,_,p,_,eP _ _ cO,dT,dh,dJ,⟨rfl,rfl,mP⟩,.int _ _⟩
theorem a6.AV (aQ:bO P Γ) (I:Ok s L) {t bK e:TypeId} {x y:Operand} {it aG:bN} {b off dl q7 jw bC yD k:Nat} {cs:List af}
    (ah:o.op = .call { callee := .builtin .copy,args := #[x,y],argTypes := #[t,bK] }) (aL:Γ.get? t=some it) (bq:it.bH = .aB e) (bL:Γ.get? e=some aG) (U:aG.size=1) (ab:aK env x=some (sb b off dl q7)) (ar:bo L (.own b) (.box e cs) R)
    (ax:aK env y=some (sb b jw bC yD)) (aA:k=min bC dl) (dH:((cs.drop jw).take k).all e7=true) (ad:jw+k≤cs.length) (fz:off+k≤cs.length) {X:af→al→Prop} :
    a6 P N o env (aS s L) (fun r ak=>r = .int .i64 k∧ak=aS s ((.own b,.box e (cs.take off++(cs.drop jw).take k++cs.drop (off+k)))::R)∧Ok s ((.own b,.box e (cs.take off++(cs.drop jw).take k++cs.drop (off+k)))::R)) X:=by
  refine a6.ku ja fun ro B a w p aJ=>?_
  have gd:=aJ.aK ab;have fj:=aJ.aK ax;have eP:=fun val w'=>Mm (P:=P) (a:=a) (val:=val) (w:=w) (w':=w') ah
  generalize ew:a.eval x=dQ at gd eP;generalize ff:a.eval y=fY at fj eP;cases gd;cases fj;obtain ⟨info,d,g1,g2,g3,-⟩:=aQ.parts aL;obtain ⟨jO,kv,cF,dj,fe,eI,jP,jl⟩:=aQ.parts bL;have cq:d = .slice e:=by rw [bq] at g3;cases d<;>simp [ev] at g3;rw [g3]
  subst cq;obtain ⟨vs,cQ,cV,e3⟩:=aJ.wf.obj _ _ (ar.get I);have qI:=cV.length;have s4:bJ w p ((vs.toList.drop jw).take k) ((cs.drop jw).take k):=(cV.drop _).take _;have mx:=qE s4 dH;have kc:((vs.toList.drop jw).take k).length=k:=by rw [ae8,ai5];omega
  have cj:((cs.drop jw).take k).length=k:=by rw [ae8,ai5];omega
  rw [ae9] at qI
  have cO:=run_copy_row P w t bK o.type e b off dl q7 ⟨b,jw,none⟩ bC yD vs e ((vs.toList.drop jw).take k) g2 (by rw [cF];simp [eI,U]) cQ (by rw [kc,aA]) (fun j u hu=>by
    rw [lo,jE cQ]
    rw [ai2] at hu
    split at hu
    · rw [ao6] at hu
      simpa using hu
    · cases hu) (by rw [kc];omega) mx
  rw [kc] at cO;obtain ⟨dT,dh,dJ,mP⟩:=Mn (off:=off) I aJ.wf ar cQ cV s4 (by rw [cj];exact fz);rw [kc] at dT dh dJ;rw [cj] at dh dJ mP;exact ⟨_,_,_,p,_,eP _ _ cO,dT,dh,dJ,⟨rfl,rfl,mP⟩,.int _ _⟩
theorem aa.Hi (aQ:bO P Γ) (I:Ok s L) {t bK e:TypeId} {x y:Operand} {it aG:bN} {b off dl q7 bV:Nat} {cs ys:List af} {dm:bQ} (av:guardOf ops env o=some true) (ay:o.dst=some d) (aT:aa' d N=true)
  (ah:o.op = .call { callee := .builtin .copy,args := #[x,y],argTypes := #[t,bK] }) (aL:Γ.get? t=some it) (bq:it.bH = .aB e) (bL:Γ.get? e=some aG) (U:aG.size=1) (ab:aK env x=some (sb b off dl q7)) (ar:bo L (.own b) (.box e cs) R)
  (ax:aK env y=some (.aB bV ys dm)) (c6:bV=1) (dH:ys.all e7=true) (wR:ys.length≤dl) (fz:off+ys.length≤cs.length)
  (h:Ok s ((.own b,.box e (cs.take off++ys++cs.drop (off+ys.length)))::R)→aa P N ops l Q ((d,.int .i64 ys.length)::env) (aS s ((.own b,.box e (cs.take off++ys++cs.drop (off+ys.length)))::R))):aa P N ops (o::l) Q env (aS s L):=
 aa.op av ay aT (a6.Hi aQ I ah aL bq bL U ab ar ax c6 dH wR fz (X:=fun _ _=>False)) (fun x ak ⟨U,ad,aj⟩=>by subst U;subst ad;exact h aj) (fun _ _ h=>h.elim)
theorem aa.AV (aQ:bO P Γ) (I:Ok s L) {t bK e:TypeId} {x y:Operand} {it aG:bN} {b off dl q7 jw bC yD:Nat} (k:Nat) {cs:List af} (av:guardOf ops env o=some true) (ay:o.dst=some d) (aT:aa' d N=true)
  (ah:o.op = .call { callee := .builtin .copy,args := #[x,y],argTypes := #[t,bK] }) (aL:Γ.get? t=some it) (bq:it.bH = .aB e) (bL:Γ.get? e=some aG) (U:aG.size=1) (ab:aK env x=some (sb b off dl q7)) (ar:bo L (.own b) (.box e cs) R)
  (ax:aK env y=some (sb b jw bC yD)) (aA:k=min bC dl) (dH:((cs.drop jw).take k).all e7=true) (ad:jw+k≤cs.length) (fz:off+k≤cs.length)
  (h:Ok s ((.own b,.box e (cs.take off++(cs.drop jw).take k++cs.drop (off+k)))::R)→aa P N ops l Q ((d,.int .i64 k)::env) (aS s ((.own b,.box e (cs.take off++(cs.drop jw).take k++cs.drop (off+k)))::R))):aa P N ops (o::l) Q env (aS s L):=
 aa.op av ay aT (a6.AV aQ I ah aL bq bL U ab ar ax aA dH ad fz (X:=fun _ _=>False)) (fun x ak ⟨U,ad,aj⟩=>by subst U;subst ad;exact h aj) (fun _ _ h=>h.elim)
theorem bm.AV {J:al→Prop} {m:Nat} (i:Nat) (aQ:bO P Γ) (I:Ok s L) {t bK e:TypeId} {x y:Operand} {it aG:bN} {b off dl q7 jw bC yD:Nat} (k:Nat) {cs:List af} (aC:eK l.toArray m (idxs 0 l)=[i]) (aN:l.toArray[i]? = some o) (ay:o.dst=some d) (aT:aa' d N=true)
  (av:c4 l env o)
  (ah:o.op = .call { callee := .builtin .copy,args := #[x,y],argTypes := #[t,bK] }) (aL:Γ.get? t=some it) (bq:it.bH = .aB e) (bL:Γ.get? e=some aG) (U:aG.size=1) (ab:aK (b2 l env o) x=some (sb b off dl q7)) (ar:bo L (.own b) (.box e cs) R)
  (ax:aK (b2 l env o) y=some (sb b jw bC yD)) (aA:k=min bC dl) (dH:((cs.drop jw).take k).all e7=true) (ad:jw+k≤cs.length) (fz:off+k≤cs.length)
  (aH:Ok s ((.own b,.box e (cs.take off++(cs.drop jw).take k++cs.drop (off+k)))::R)→J (aS s ((.own b,.box e (cs.take off++(cs.drop jw).take k++cs.drop (off+k)))::R))∨kA l.toArray i=true)
  (h:Ok s ((.own b,.box e (cs.take off++(cs.drop jw).take k++cs.drop (off+k)))::R)→bm J P Γ N l.toArray Q (bX (m|||2^i)) ((d,.int .i64 k)::env) (aS s ((.own b,.box e (cs.take off++(cs.drop jw).take k++cs.drop (off+k)))::R))):bm J P Γ N l.toArray Q (bX m) env (aS s L):=
 bm.one aC aN ay aT av (a6.AV aQ I ah aL bq bL U ab ar ax aA dH ad fz (X:=fun _ _=>False)) (fun x ak ⟨U,ad,aj⟩=>by subst U;subst ad;exact aH aj) (fun x ak ⟨U,ad,aj⟩=>by subst U;subst ad;exact h aj) (fun _ _ h=>h.elim)
theorem a6.Hj (aQ:bO P Γ) {t e:TypeId} {x y:Operand} {it aG:bN} {b n cap k:Nat} {q2:IntKind} (ah:o.op = .slice t x (some y) none none) (aL:Γ.get? t=some it) (bq:it.bH = .aB e) (bL:Γ.get? e=some aG) (U:aG.size=1) (ab:aK env x=some (eh b n cap)) (ax:aK env y=some (.int q2 (k:Int))) (aA:k≤n) (az:n≤cap) (CA:k<cap) :
  a6 P N o env s (fun x ak=>x=sb b k (n-k) (cap-k)∧ak=s) (fun _ _=>False):=by
 refine a6.ns ja fun ro B a w p aJ=>?_
 obtain ⟨info,d,g1,g2,g3,-⟩:=aQ.parts aL;obtain ⟨jO,kv,cF,dj,fe,eI,-⟩:=aQ.parts bL;have ay:d = .slice e:=by rw [bq] at g3;cases d<;>simp [ev] at g3;rw [g3]
 subst ay;have aC:=aJ.aK ab;have fj:=aJ.aK ax;generalize ew:a.eval x=dQ at aC;generalize ff:a.eval y=fY at fj;cases aC;cases fj;refine .same (val := .slice (some ⟨b,k,none⟩) (n-k) (cap-k)) ?_ (.hC _);unfold execOp;rw [ah];simp only [ew,at7,ao2,ff];refine gS ?_;have lr:(k:Int)≤(n:Int):=by omega
 have p3:(n:Int)≤(cap:Int):=by omega
 have an:(Instr.sliceBounds true n cap (some (.int q2 (k:Int))) none none).run P w = .ok (k,n,cap) w:=by
  simp [Instr.sliceBounds,run_sliceBound,lr,p3]
 have bu:cap-k≠0:=by omega
 simp only [Instr.sliceAt,Instr.slice,ac',run_underlying g2,i5,an,sizeOf,typeInfo,run_program,cF,ae5,eI,U];simp [bu,lo];intro cY;omega
theorem bm.Hj {J:al→Prop} {m:Nat} (i:Nat) (aQ:bO P Γ) (cL:J s) {t e:TypeId} {x y:Operand} {it aG:bN} {b n cap:Nat} (k:Nat) {q2:IntKind} (aC:iy l.toArray m i=true) (aN:l.toArray[i]? = some o) (ay:o.dst=some d) (aT:aa' d N=true)
  (av:c4 l env o) (ah:o.op = .slice t x (some y) none none) (aL:Γ.get? t=some it) (bq:it.bH = .aB e) (bL:Γ.get? e=some aG) (U:aG.size=1) (ab:aK (b2 l env o) x=some (eh b n cap)) (ax:aK (b2 l env o) y=some (.int q2 (k:Int))) (aA:k≤n) (az:n≤cap) (CA:k<cap)
  (h:bm J P Γ N l.toArray Q (bX (m|||2^i)) ((d,sb b k (n-k) (cap-k))::env) s):bm J P Γ N l.toArray Q (bX m) env s:=
 bm.rY cL aC aN ay aT av (fun _ _=>a6.Hj aQ ah aL bq bL U ab ax aA az CA) h
theorem bm.AF {J:al→Prop} {m:Nat} (i:Nat) (aQ:bO P Γ) (cL:J s) {t e:TypeId} {x y:Operand} {it aG:bN} {b n cap:Nat} (k:Nat) {q2:IntKind} (aC:iy l.toArray m i=true) (aN:l.toArray[i]? = some o) (ay:o.dst=some d) (aT:aa' d N=true)
  (av:c4 l env o) (ah:o.op = .slice t x none (some y) none) (aL:Γ.get? t=some it) (bq:it.bH = .aB e) (bL:Γ.get? e=some aG) (ab:aK (b2 l env o) x=some (eh b n cap)) (ax:aK (b2 l env o) y=some (.int q2 (k:Int))) (aA:k≤cap)
  (h:bm J P Γ N l.toArray Q (bX (m|||2^i)) ((d,eh b k cap)::env) s):bm J P Γ N l.toArray Q (bX m) env s:=
 bm.rY cL aC aN ay aT av (fun _ _=>a6.AF aQ ah aL bq bL ab ax aA) h
end
section
variable {J:al→Prop} {P:Program} {Γ:cy} {N:Nat} {Q:b6→Env→al→Prop} {env:Env} {s:al} {l:List Oper} {o:Oper} {d m:Nat}
theorem bm.sc (i:Nat) (cL:J s) {g:Operand} {name:String} {fR:Array Operand} {c3:Array TypeId} {t:TypeId} {v:af} {f:FuncId} {xs:List af} {r:af} (aC:iy l.toArray m i=true) (aN:l.toArray[i]? = some o) (ay:o.dst=some d) (aT:aa' d N=true)
  (av:c4 l env o) (ah:o.op = .call { callee := .invoke g name,args:=fR,argTypes:=c3 }) (au:aK (b2 l env o) g=some (.iface t v)) (aR:fP (b2 l env o) fR.toList=some xs) (hm:pS P t name f) (h:aV P f (v::xs) r)
  (aA:bm J P Γ N l.toArray Q (bX (m|||2^i)) ((d,r)::env) s):bm J P Γ N l.toArray Q (bX m) env s:=
 bm.rY cL aC aN ay aT av (fun s _=>(a6.invoke ah au aR hm (h s)).mono (fun x ak h=>by cases h.1;exact ⟨rfl,h.2⟩) (fun x ak h=>by cases h.1)) aA
end
section
variable {J:al→Prop} {P:Program} {Γ:cy} {N:Nat} {l:List Oper} {i:Nat} {rest:List Oper} {Q:b6→Env→al→Prop} {env:Env} {s:al} {o:Oper} {d:Nat}
theorem aM.sc {g:Operand} {name:String} {fR:Array Operand} {c3:Array TypeId} {t:TypeId} {v:af} {f:FuncId} {xs:List af} {r:af} (av:c4 l env o) (ay:o.dst=some d) (aT:aa' d N=true)
  (ah:o.op = .call { callee := .invoke g name,args:=fR,argTypes:=c3 }) (au:aK (b2 l env o) g=some (.iface t v)) (aR:fP (b2 l env o) fR.toList=some xs) (hm:pS P t name f) (h:aV P f (v::xs) r)
  (aA:aM J P Γ N l (i+1) rest Q ((d,r)::env) s):aM J P Γ N l i (o::rest) Q env s:=
 aM.calm av ay aT (fun s _=>(a6.invoke ah au aR hm (h s)).mono (fun x ak h=>by cases h.1;exact ⟨rfl,h.2⟩) (fun x ak h=>by cases h.1)) aA
end
section
variable {J:al→Prop} {P:Program} {Γ:cy} {N:Nat} {l:List Oper} {i:Nat} {rest:List Oper} {Q:b6→Env→al→Prop} {env:Env} {s:al} {o:Oper} {d:Nat}
theorem aM.gJ {L R K:a8} {aem:ey→a8→Prop} {g:Operand} {fv:af} {fR:Array Operand} {c3:Array TypeId} {xs:List af} (av:c4 l env o) (ay:o.dst=some d) (aT:aa' d N=true) (kj:kA l.toArray i=true)
  (bY:o.op = .call { callee := .value g,args:=fR,argTypes:=c3 }) (au:aK (b2 l env o) g=some fv) (aR:fP (b2 l env o) fR.toList=some xs) (h:di P fv xs K aem) (I:Ok s L) (ar:aI L K R)
  (aA:∀ x aP,aem (.ret x) aP→Ok s (aP++R)→Q .normal ((d,x)::env) (aS s (aP++R))) (ab:∀ x aP,aem (.panic x) aP→Ok s (aP++R)→Q (.panic x) [] (aS s (aP++R))):aM J P Γ N l i [o] Q env (aS s L):=
 aM.last av ay aT kj (a6.gJ bY au aR h I ar) (fun x ak ⟨aP,U,ad,aj⟩=>by subst U;exact aA x aP aj ad) (fun x ak ⟨aP,U,ad,aj⟩=>by subst U;exact ab x aP aj ad)
end
section
variable {J:al→Prop} {P:Program} {Γ:cy} {N:Nat} {l:List Oper} {i:Nat} {rest:List Oper} {Q:b6→Env→al→Prop} {env:Env} {s:al} {o:Oper} {d:Nat}
theorem aM.fc (aQ:bO P Γ) {t e:TypeId} {x y:Operand} {it aG:bN} {b n cap:Nat} {k:IntKind} {z:Int} (j:Nat) (av:c4 l env o) (ay:o.dst=some d) (aT:aa' d N=true)
  (ah:o.op = .indexAddr t x y) (aL:Γ.get? t=some it) (bq:it.bH = .aB e) (bL:Γ.get? e=some aG)
  (ab:aK (b2 l env o) x=some (eh b n cap)) (ax:aK (b2 l env o) y=some (.int k z)) (eR:z=(j:Int)) (aH:j<n)
  (h:aM J P Γ N l (i+1) rest Q ((d,.ptr b (j*aG.size))::env) s):aM J P Γ N l i (o::rest) Q env s:=
 aM.calm av ay aT (fun _ _=>a6.fc aQ ah aL bq bL ab ax eR aH) h
end
theorem Mo:∀ {g:List bw} {len i k:Nat} {x:bw},m1 len i g=true→g[k]? = some x→iA len (i+k) x=true
  | y::r,len,i,0,x,h,ab=>by
    rw [m1,f9] at h;simp at ab;subst ab;exact h.1
  | y::r,len,i,k+1,x,h,ab=>by
    rw [m1,f9] at h;have:=Mo (k:=k) h.2 uj;rw [show i+(k+1)=i+1+k by omega];exact this
theorem tB {g:List bw} {k:Nat} {x:bw} (h:hn g=true) (ab:g[k]? = some x):iA g.length k x=true:=by
 unfold hn at h;simp only [f9] at h;have:=Mo h.2.2 ab;rwa [af8] at this
theorem wS {g:List bw} (h:hn g=true):1≤g.length∧g.length≤300:=by
 unfold hn at h;simp only [f9,i7] at h;exact ⟨h.1,h.2.1⟩
theorem DC:∀ (g:List bw) (i:Nat),(fu i g).length=g.length
 | [],_=>rfl
 | x::r,i=>by rw [fu,i0,i0,DC r]
theorem DD {l:List Int} {j:Nat} {n:Int} (az:0≤n) (h:∀ v∈l,0≤v∧v≤n):0≤l.getD j 0∧l.getD j 0≤n:=by
 rw [d5];cases aH:l[j]? with
 | none=>exact ⟨ak6 _,az⟩
 | some v=>exact h v (d6 aH)
theorem AW:∀ (g:List bw) (i:Nat),∀ v∈fu i g,0≤v∧v≤g.length
  | [],_,v,h=>by cases h
  | x::r,i,v,h=>by
    have aX:=AW r (i+1);have U:=DD (j:=x.no.toNat-(i+1)) ag aX;have ad:=DD (j:=x.yes.toNat-(i+1)) ag aX;rw [fu] at h;rw [i0];rcases af1.1 h with rfl|h
    · split<;>omega
    · have:=aX v h;omega
def jn (g:List bw) (j:Nat):List Int:=ab' j 0++fu j (g.drop j)
theorem Mp {g:List bw} {j:Nat} (h:j≤g.length):(jn g j).length=g.length:=by
 unfold jn;rw [f8,ag1,DC,ai5];omega
theorem Mq {g:List bw} {k:Nat} {n:Int} (U:n>(k:Int)) (ad:n<(g.length:Int)):((jn g (k+1)).map bb)[n.toNat*1]? = some (.int .i64 ((fu (k+1) (g.drop (k+1))).getD (n.toNat-(k+1)) 0)):=by
 have aE:n.toNat<(jn g (k+1)).length:=by rw [Mp ag];omega
 unfold jn at aE ⊢;rw [ai8,af3,af0 cP,ag1,d5];rw [f8,ag1] at aE;rw [f7 ag];rfl
theorem Ve {g:List bw} {k:Nat} {x:bw} {v:Int} (ab:g[k]? = some x) (aR:x.atom≥0) (au:v=1+max ((fu (k+1) (g.drop (k+1))).getD (x.no.toNat-(k+1)) 0) ((fu (k+1) (g.drop (k+1))).getD (x.yes.toNat-(k+1)) 0)) :
  eS (k*1) [.int .i64 v] ((jn g (k+1)).map bb)=(jn g k).map bb:=by
 rw [pb,ai8];unfold jn;rw [drop_cons ab,fu,g6 aR,← au,ap4,af9,ae1,ae1,al4 _ _ ba];simp [bb]
theorem Vf {g:List bw} {k:Nat} {x:bw} (ab:g[k]? = some x) (aR:¬ x.atom≥0):jn g (k+1)=jn g k:=by
 unfold jn;rw [drop_cons ab,fu,d9 aR,ap4,af9];rfl
theorem Vg (g:List bw) (av:g.length<bB):aV d0 18 [gW g] (.cu [.int .i64 (if hn g then kC g else 0),.int .i64 (if hn g then 0 else 2)]):=by
 have an:=bG;refine aV.bl ai Tryz.func18 C C fun s I=>?_
 have a7:=He g av;unfold gW at *;cases mD:hn g with
 | false=>
  rw [mD] at a7;refine cB ?_;exact bA I
 | true=>
 rw [mD] at a7;obtain ⟨lQ,eY⟩:=wS mD;have jX:((g.map e9).length:Int)=(g.length:Int):=by rw [f0]
 refine cB ?_;refine aa.tz ai I g.length C C C C C C C C C C (ae7 (fun z=>some (af.int .i64 z)) jX) (ae7 (fun z=>some (af.int .i64 z)) jX) (by show _*8≤_;omega) ag (fun b I=>?_);rw [show ab' g.length (af.int .i64 0)=(jn g g.length).map bb by unfold jn;rw [eG (g9 _),fu,d7,List.map_replicate];rfl] at I ⊢;refine bD ?_;have hw:ad5 .i64 ((g.length:Int)-1)=(g.length:Int)-1:=ee ag ag;refine ae.b9 [0,4] C I (σ:=Nat) (fun j=>[(5,.int .i64 ((j:Int)-1))]) (fun j=>[(.own b,.box 3 ((jn g j).map bb))]) (fun j=>j≤g.length) (fun j=>j) g.length (g9 _) (by repeat (first|exact trivial|refine ⟨⟨_,rfl,aO⟩,?_⟩|refine ⟨⟨_,rfl,aU.of_eq (by (rw [jX,hw]))⟩,?_⟩)) a1 ?_;rintro j aH I;refine b8 ?_;cases j with
 | zero=>
  refine ae.cond C (fun h=>by simp at h) (fun _=>?_);refine bD ?_;refine aa.fc ai 0 C C C C C C C C C C ag ?_
  refine aa.jY ai I C C C C C C aZ C (v := .int .i64 (kC g)) (by
   unfold jn kC
   rw [al7,List.replicate_zero,d8,af3,f7 (by rw [DC];omega),d5,f7 (by rw [DC];omega)];rfl) ?_
  refine eA ?_;exact bA I
 | succ k=>
 have e:(((k+1:Nat):Int)-1)=(k:Int):=by omega
 rw [e];refine ae.cond C (fun _=>?_) (fun h=>by simp at h);obtain ⟨x,ab,bP⟩:=b5 (f:=e9) (show k<g.length by omega);have aT:=tB mD ab;unfold e9 gL bg at bP;refine dL ?_;refine ae.cond C (fun aR=>?_) (fun aR=>?_);rotate_left
 ·have aR:¬ x.atom≥0:=by simpa using aR
  rw [Vf ab aR] at I ⊢;refine gr ?_;exact bp.mk k I (by show k≤g.length;omega) yr a1 (by show k<k+1;omega)
 have aR:x.atom≥0:=by simpa using aR
 have eo:=(kk ag).1 aT;have iL:=DD (j:=x.no.toNat-(k+1)) (n:=300) ag (fun v au=>⟨(AW (g.drop (k+1)) (k+1) v au).1,by have:=(AW (g.drop (k+1)) (k+1) v au).2;rw [ai5] at this;omega⟩);have adi:=DD (j:=x.yes.toNat-(k+1)) (n:=300) ag (fun v au=>⟨(AW (g.drop (k+1)) (k+1) v au).1,by have:=(AW (g.drop (k+1)) (k+1) v au).2;rw [ai5] at this;omega⟩)
 have sZ:=Ve ab aR (v:=ad5 .i64 (1+(if (fu (k+1) (g.drop (k+1))).getD (x.yes.toNat-(k+1)) 0>(fu (k+1) (g.drop (k+1))).getD (x.no.toNat-(k+1)) 0 then (fu (k+1) (g.drop (k+1))).getD (x.yes.toNat-(k+1)) 0 else (fu (k+1) (g.drop (k+1))).getD (x.no.toNat-(k+1)) 0))) (by
  rw [ee (by split<;>omega) (by split<;>omega)];split<;>omega)
 refine qZ ?_;refine aM.fc ai x.no.toNat C C C C C C C C C ag ag ?_;refine aM.jY ai I C C C C C C aZ C (Mq eo.2.2.1 eo.2.2.2.1) ?_;refine db ?_;refine aM.fc ai x.yes.toNat C C C C C C C C C ag ag ?_;refine aM.jY ai I C C C C C C aZ C (Mq eo.2.2.2.2.1 eo.2.2.2.2.2.1) ?_;refine db ?_;refine aM.fc ai k C C C C C C C C C C ag ?_;refine aM.jv ai I _ C C C C C C C C C C aZ (by rw [f0,Mp ag];show k*1+1≤_;omega) sZ (fun I=>?_);refine gr ?_;exact bp.mk k I (by show k≤g.length;omega) yr a1 (by show k<k+1;omega)
def wT:Nat→List (List Int)→Bool
 | _,[]=>true
 | i,l::r=>mz 3 i [] l&&wT (i+1) r
structure gg (w:bx):Prop where
 jZ:w.ps.length≤60
 short:∀ l∈w.ps,l.length≤3
 oh:wT 0 w.ps=true
 bn:w.owner.length≤40
 own:∀ o∈w.owner,3≤o∧o<3+(w.ps.length:Int)
def sd (up:List Nat) (l:List Int):Nat:=l.foldl (fun s p=>s|||up.getD p.toNat 0) (1|||2^up.length)
def j0:List Nat→List (List Int)→List Nat
 | up,[]=>up
 | up,l::r=>j0 (up++[sd up l]) r
def eV (ps:List (List Int)):List Nat:=j0 [1,3,5] ps
theorem Mr:∀ (ps:List (List Int)) (up:List Nat),(j0 up ps).length=up.length+ps.length
 | [],up=>rfl
 | l::r,up=>by rw [j0,Mr r,f8,ag',i0];omega
theorem tC (ps:List (List Int)):(eV ps).length=3+ps.length:=Mr ps _
theorem DE:∀ {ps:List (List Int)} {i j:Nat} {l:List Int},wT i ps=true→ps[j]? = some l→mz 3 ((i+j:Nat):Int) [] l=true
  | l::r,i,0,x,h,ab=>by
    rw [wT,f9] at h;have:l=x:=by simpa using ab
    subst this;exact h.1
  | l::r,i,j+1,x,h,ab=>by
    rw [wT,f9] at h;have:=DE (j:=j) h.2 uj;rw [show i+(j+1)=i+1+j by omega];exact this
theorem DF {i:Int}:∀ {l seen:List Int} {k:Nat} {p:Int},mz 3 i seen l=true→l[k]? = some p→3≤p∧p<3+i∧p∉seen++l.take k
  | c::r,seen,0,p,h,aD=>by
    rw [mz] at h;simp only [f9,i7,Bool.not_eq_true',List.contains_eq_mem,decide_eq_false_iff_not] at h;have:c=p:=by simpa using aD
    subst this;refine ⟨h.1,h.2.1,by simpa using h.2.2.1⟩
  | c::r,seen,k+1,p,h,aD=>by
    rw [mz] at h;simp only [f9,i7] at h;have:=DF (k:=k) h.2.2.2 (by simpa using aD);refine ⟨this.1,this.2.1,?_⟩;rw [List.take_succ_cons];have aj:=this.2.2;simpa using aj
theorem Hk {m n:Nat} (h:m<2^64) (k:n<2^64):m|||n<2^64:=aj2 h k
theorem Vh {up:List Nat} (h:∀ m∈up,m<2^64) (k:Nat):up.getD k 0<2^64:=by
 rw [d5];cases ab:up[k]? with
 | none=>exact Nat.two_pow_pos 64
 | some x=>exact h x (d6 ab)
theorem Hl {up:List Nat} (h:∀ m∈up,m<2^64):∀ (l:List Int) (s:Nat),s<2^64→l.foldl (fun s p=>s|||up.getD p.toNat 0) s<2^64
 | [],s,ar=>ar
 | p::r,s,ar=>Hl h r _ (Hk ar (Vh h _))
theorem Vi {up:List Nat} (h:∀ m∈up,m<2^64) (aE:up.length<64) (l:List Int):sd up l<2^64:=
 Hl h l _ (Hk ec (ai4 ag aE))
theorem Ms:∀ (ps:List (List Int)) (up:List Nat),(∀ m∈up,m<2^64)→up.length+ps.length<64→∀ m∈j0 up ps,m<2^64
  | [],up,h,_=>h
  | l::r,up,h,aE=>by
    rw [i0] at aE;rw [j0];refine Ms r _ (fun m hm=>?_) (by rw [f8,ag'];omega);rcases ae4.1 hm with hm|hm
    · exact h m hm
    · rw [t6] at hm;subst hm
      exact Vi h ag l
theorem yE {ps:List (List Int)} (h:ps.length≤60):∀ m∈eV ps,m<2^64:=
 Ms ps _ (by intro m hm;simp at hm;rcases hm with rfl|rfl|rfl<;>decide) cP
theorem Mt (l:List Int):∀ (ps:List (List Int)) (up:List Nat),j0 up (ps++[l])=j0 up ps++[sd (j0 up ps) l]
 | [],up=>rfl
 | x::r,up=>by rw [ad',j0,Mt l r,← j0]
theorem Mu (ps:List (List Int)) (l:List Int):eV (ps++[l])=eV ps++[sd (eV ps) l]:=Mt l ps _
def pad (u:List Nat):List Nat:=u++ab' (63-u.length) 0
theorem Vj {u:List Nat} (h:u.length≤63):(pad u).length=63:=by unfold pad;simp;omega
theorem yF {u:List Nat} {i:Nat} {m:Nat} (h:u[i]? = some m):(pad u)[i]? = some m:=by
 unfold pad;rw [af' (t7.1 h).1];exact h
theorem Vk {u:List Nat} (h:u.length<63) (v:Nat):(pad u).set u.length v=pad (u++[v]):=by
 unfold pad;rw [al4 _ _ (g9 _),Nat.sub_self,af9,f8,ag'];congr 1;obtain ⟨n,az⟩:∃ n,63-u.length=n+1:=⟨62-u.length,by omega⟩;have ad:63-(u.length+1)=n:=by omega
 rw [az,ad,List.replicate_succ];rfl
mutual
def gM (w:bx):ao→Bool
 | .mk o a p c n ks=>h9 w (.mk o a p c n ks)&&jJ w ks
def jJ (w:bx):List ao→Bool
 | []=>true
 | x::r=>gM w x&&jJ w r
end
theorem p4 (w:bx) (f:ao):gM w f=(h9 w f&&jJ w f.kids):=by cases f;rw [gM];rfl
theorem l2 {w:bx}:∀ {l:List ao} {x:ao},jJ w l=true→x∈l→gM w x=true
  | y::r,x,h,ab=>by
    rw [jJ,f9] at h;rcases af1.1 ab with rfl|ab
    · exact h.1
    · exact l2 h.2 ab
mutual
theorem uX:∀ (f:ao) (w:bx) (d:Nat) (k:Int),(e1 w d k f).1=true→gM w f=true
  | .mk o a p c n ks,w,d,k,h=>by
    rw [e1] at h;split at h
    · cases h
    · split at h
      · rename_i az
        rw [gM,az,f5];exact Mv ks w _ _ h
      · cases h
theorem Mv:∀ (l:List ao) (w:bx) (d:Nat) (k:Int),(gV w d k l).1=true→jJ w l=true
  | [],_,_,_,_=>rfl
  | x::r,w,d,k,h=>by
    rw [gV] at h;split at h
    · rename_i ab
      rw [jJ,uX x w d k ab,Mv r w d _ h];rfl
    · cases h
end
mutual
def lB:ao→Int
 | .mk o a p c n ks=>hH (if (ao.mk o a p c n ks).c0 then a+1 else 0) ks
def hH (m:Int):List ao→Int
 | []=>m
 | x::r=>hH (max m (lB x)) r
end
theorem DG (f:ao):lB f=hH (if f.c0 then f.arg+1 else 0) f.kids:=by cases f;rw [lB];rfl
theorem Hm:∀ (l r:List ao) (m:Int),hH m (l++r)=hH (hH m l) r
 | [],r,m=>by rw [d8,hH]
 | x::l,r,m=>by rw [ad',hH,hH,Hm l r]
theorem DH:∀ (l:List ao) (m:Int),m≤hH m l∧∀ x∈l,lB x≤hH m l
  | [],m=>⟨by rw [hH];exact ak6 _,fun x h=>by cases h⟩
  | x::r,m=>by
    have aX:=DH r (max m (lB x));rw [hH];refine ⟨by have:=aX.1;omega,fun y ax=>?_⟩;rcases af1.1 ax with rfl|ax
    · have:=aX.1;omega
    · exact aX.2 y ax
def hz (n:Int) (v:Int×Int):Bool:=
 if v.1=1 then kF v.2 else if v.1=2 then decide (v.2=0) else decide (v.1=3)&&(decide (v.2≥0)&&decide (v.2<n))
def oi (w:bx) (m:Nat):List Int:=((List.range w.owner.length).filter fun s=>m.testBit (w.owner.getD s 0).toNat).map fun (s:Nat)=>(s:Int)
def yG (w:bx) (c:Int):Bool:=decide (c≥3)&&decide (c<3+(w.ps.length:Int))
def AX (w:bx) (n:Int) (o:eH):Bool:=yG w o.cls&&(decide (o.bn.length=(oi w ((eV w.ps).getD o.cls.toNat 0)).length)&&o.bn.all (hz n))
def AY (w:bx) (bh:List eH):Bool:=decide (bh.length≤40)&&bh.all (AX w bh.length)
def oj (w:bx) (bh:List eH) (args:List (Int×Int)):Bool:=
 AY w bh&&(decide (args.length≥1)&&(decide (args.length≤3)&&args.all (hz bh.length)))
def pc (w:bx) (c:Int):Nat:=(eV w.ps).getD c.toNat 0
def q8 (w:bx) (bh:List eH):Int×Int→List Int→Option (Int×Int)
 | v,[]=>some v
 | v,s::r=>
  let o:=bh.getD v.2.toNat default
  if v.1≠3 then none
  else if (pc w o.cls).testBit (w.owner.getD s.toNat 0).toNat then
   q8 w bh (o.bn.getD (((oi w (pc w o.cls)).findIdx? (· == s)).getD 0) (0,0)) r
  else none
def uY (w:bx) (bh:List eH) (args:List (Int×Int)) (f:ao):Bool:=
 match q8 w bh (args.getD f.arg.toNat (0,0)) f.path with
 | none=>false
 | some v=>
  if f.op=2 then (if v.1=3 then (pc w (bh.getD v.2.toNat default).cls).testBit f.cls.toNat else (pc w v.1).testBit f.cls.toNat)
  else decide (v.1=1)&&((decide (v.2=f.n)==decide (f.op=4))&&decide (v.2≤f.n))
mutual
def tD (w:bx) (bh:List eH) (args:List (Int×Int)):ao→Bool
 | .mk o a p c n ks=>
  if o=1 then true
  else if o=5 then !(om w bh args 0 ks)
  else if o=6 then om w bh args 0 ks&&om w bh args 1 ks
  else if o=7 then om w bh args 0 ks||om w bh args 1 ks
  else uY w bh args (.mk o a p c n ks)
def om (w:bx) (bh:List eH) (args:List (Int×Int)):Nat→List ao→Bool
 | _,[]=>false
 | 0,x::_=>tD w bh args x
 | n+1,_::r=>om w bh args n r
end
theorem DI (w:bx) (bh:List eH) (args:List (Int×Int)):∀ (n:Nat) (l:List ao) (x:ao),l[n]? = some x→om w bh args n l=tD w bh args x
 | 0,y::r,x,h=>by rw [om];simp at h;rw [h]
 | n+1,y::r,x,h=>by rw [om];exact DI w bh args n r x fV
theorem Vl (w:bx) (bh:List eH) (args:List (Int×Int)) (f:ao):tD w bh args f =
  if f.op=1 then true
  else if f.op=5 then !(om w bh args 0 f.kids)
  else if f.op=6 then om w bh args 0 f.kids&&om w bh args 1 f.kids
  else if f.op=7 then om w bh args 0 f.kids||om w bh args 1 f.kids
  else uY w bh args f:=by cases f;rw [tD];rfl
def hb (p:bR):List (List Int):=p.cm.map fM.parents
def fD:Nat→List fM→List Int
 | _,[]=>[]
 | i,c::r=>ab' c.bn.length ((i:Int)+3)++fD (i+1) r
def bT (p:bR):bx:=⟨hb p,fD 0 p.cm⟩
def nG:Int→List Int→Option Int
 | n,[]=>some n
 | n,s::r=>if s=n then nG (n+1) r else none
def lC:Int→List fM→Option Int
 | n,[]=>some n
 | n,c::r=>if c.bn.length≤4 then (nG n c.bn).bind fun m=>lC m r else none
def oo (cs:List fM):Nat→List Int→List Int→List Int
 | 0,_,out=>out
 | k+1,up,out=>
  if up.contains ((k:Int)+3) then oo cs k (up++(cs.getD k default).parents) (out++(cs.getD k default).bn)
  else oo cs k up out
def pd (l:List Int):List Int:=l.mergeSort fun a b=>decide (a≤b)
def pe (p:bR) (c:Nat):List Int:=pd (oo p.cm (c+1) [(c:Int)+3] [])
def q9 (wU:List Int):List Int→List iR→Bool
 | _,[]=>true
 | seen,x::r=>wU.contains x.slot&&(!seen.contains x.slot&&(kF x.n&&q9 wU (seen++[x.slot]) r))
def yH (p:bR) (i:Nat):List Int:=(fC (hb p) (2+(hb p).length)).getD i []
def Hn (p:bR) (i:Nat) (c:fM):Bool := !(yH p (i+3)).isEmpty&&q9 (pe p i) [] c.inits
def q' (p:bR):Nat→List fM→Bool
 | _,[]=>true
 | i,c::r=>Hn p i c&&q' p (i+1) r
def pf (p:bR):Bool:=decide (p.cm.length≤10)&&((lC 0 p.cm==some p.bn)&&(mA (hb p)&&q' p 0 p.cm))
def m6 (p:bR) (x:iS) (size:Int):Bool:=
 if x.op=1 then kF x.n
 else if x.op=3 then decide (x.n≥0)&&decide (x.n<size)
 else if x.op=4∨x.op=7 then decide (x.n≥0)&&decide (x.n<p.bn)
 else if x.op=6∨x.op=8 then decide (x.n≥3)&&decide (x.n<3+(p.cm.length:Int))
 else if x.op=5 then decide (x.n≥0)&&decide (x.n<(p.dV.length:Int))
 else decide (x.n≥0)&&decide (x.n<1)
def se (p:bR) (x:iS):Option Int:=
 if x.op=5 then some (p.dV.getD x.n.toNat 0)
 else if x.op=1∨x.op=2∨x.op=3∨x.op=6∨x.op=18 then some 0
 else if x.op=4∨x.op=8∨x.op=17 then some 1
 else if x.op=7∨x.op=9∨x.op=11∨x.op=12∨x.op=13∨x.op=14∨x.op=15∨x.op=16 then some 2
 else if x.op=10 then some 3
 else none
def yI (p:bR) (next:Bool) (x:iS) (size:Int):Bool:=m6 p x size&&((next||decide (x.op≠18))&&(se p x==some (x.kids.length:Int)))
def lD (g:Int→Int→List Int→Option (List Int)) (isLet:Bool) (size:Int):Nat→List Int→List Int→Option (List Int)
 | _,[],out=>some out
 | i,k::r,out=>(g k (if isLet&&i==1 then size+1 else size) out).bind (lD g isLet size (i+1) r)
def pg (p:bR) (n:Int) (out:List Int):Bool:=decide (n≥0)&&(decide (n<(p.nodes.length:Int))&&decide (out.getD n.toNat 0<0))
def visitM (p:bR) (next:Bool):Nat→Int→Int→List Int→Option (List Int)
 | 0,_,_,_=>none
 | f+1,n,size,out=>
  if pg p n out then
   if yI p next (p.nodes.getD n.toNat default) size then lD (visitM p next f) (decide ((p.nodes.getD n.toNat default).op=9)) size 0 (p.nodes.getD n.toNat default).kids (out.set n.toNat size)
   else none
  else none
def tE (p:bR) (m:hS):Bool:=
 decide (m.kind≥1)&&(decide (m.kind≤4)&&(decide (m.gen≥0)&&(decide (m.gen<(p.dV.length:Int))&&(h' (bT p) m.fact&&decide (lB m.fact≤p.dV.getD m.gen.toNat 0)))))
def tF (k:Int):Bool:=decide (k=1)||decide (k=4)
def nH (p:bR):List hS→List Int→Option (List Int)
 | [],out=>some out
 | m::r,out=>if tE p m then (visitM p (tF m.kind) 12 m.node (p.dV.getD m.gen.toNat 0) out).bind (nH p r) else none
def ra (p:bR):Bool:=
 decide (p.dV.length≤8)&&(decide (p.methods.length≤16)&&(decide (p.nodes.length≥1)&&(decide (p.nodes.length≤120)&&p.dV.all fun n=>decide (n≥1)&&decide (n≤3))))
def nI (p:bR):Option (List Int):=
 if pf p&&ra p then
  (nH p p.methods (ab' p.nodes.length (-1))).bind fun out=>(visitM p false 12 p.main 0 out).bind fun out=>if out.contains (-1) then none else some out
 else none
def gu (p:bR):Bool:=(nI p).isSome
theorem Mw:∀ (l:List fM) (i:Nat),(∀ c∈l,c.bn.length≤4)→(fD i l).length≤4*l.length
  | [],_,_=>g9 _
  | c::r,i,h=>by
    have U:=Mw r (i+1) (fun x ab=>h x (i6 _ ab));have ad:=h c i8;rw [fD,f8,ag1,i0];omega
theorem DJ:∀ (l:List fM) (i:Nat),∀ o∈fD i l,(i:Int)+3≤o∧o<3+(i:Int)+(l.length:Int)
  | [],_,o,h=>by cases h
  | c::r,i,o,h=>by
    rw [fD] at h;rcases ae4.1 h with h|h
    · obtain ⟨_,rfl⟩:=au4.1 h
      rw [i0];omega
    · have:=DJ r (i+1) o h
      rw [i0];omega
theorem Ho:∀ {l:List fM} {n m:Int},lC n l=some m→∀ c∈l,c.bn.length≤4
  | c::r,n,m,h,x,ab=>by
    rw [lC] at h;split at h
    · rename_i aF
      cases az:nG n c.bn with
      | none=>rw [az] at h;cases h
      | some k=>
        rw [az] at h;rcases af1.1 ab with rfl|ab
        · exact aF
        · exact Ho (l:=r) h x ab
    · cases h
theorem Mx:∀ (g:List (List Int)) (i:Nat),oc i g=true→wT i g=true∧∀ l∈g,l.length≤3
  | [],_,_=>⟨rfl,fun l h=>by cases h⟩
  | x::r,i,h=>by
    rw [oc] at h;simp only [f9,i7] at h;obtain ⟨U,ad⟩:=Mx r (i+1) h.2.2;refine ⟨by rw [wT,h.2.1,U];rfl,fun l aE=>?_⟩;rcases af1.1 aE with rfl|aE
    · exact h.1
    · exact ad l aE
theorem My {p:bR} (aF:p.cm.length≤10) {n:Int} (ar:lC 0 p.cm=some n) (av:mA (hb p)=true):gg (bT p):=by
 unfold mA at av;rw [f9] at av;obtain ⟨g1,g2⟩:=Mx _ _ av.2;have aE:(hb p).length=p.cm.length:=f0 _;have U:=Mw p.cm 0 (Ho ar);refine ⟨by show (hb p).length≤60;omega,g2,g1,by show (fD 0 p.cm).length≤40;omega,fun o ah=>?_⟩;have:=DJ p.cm 0 o ah;show 3≤o∧o<3+((hb p).length:Int);omega
theorem Hp {p:bR} (h:pf p=true):gg (bT p):=by
 unfold pf at h;simp only [f9,i7,am7] at h;exact My h.1 h.2.1 h.2.2.1
abbrev cb:=ao×Bool
def wV (x y:cb):Bool:=(x.2==y.2)&&ao.same x.1 y.1
theorem Vm (x y:cb):wV x y=true↔x=y:=by
 obtain ⟨f,b⟩:=x;obtain ⟨g,c⟩:=y;unfold wV;simp only [f9,am7,ao.L2,Prod.mk.injEq];exact And.comm
def rb (out:List cb) (x:cb):List cb:=if out.any (wV x) then out else out++[x]
def jK (a b:List cb):List cb:=b.foldl rb a
theorem Hq:∀ (b a:List cb),(jK a b).length≤a.length+b.length
  | [],a=>g9 _
  | x::r,a=>by
    have U:=Hq r (rb a x);have ad:(rb a x).length≤a.length+1:=by
      unfold rb;split
      · omega
      · simp
    have aj:jK a (x::r)=jK (rb a x) r:=rfl;rw [aj,i0];omega
theorem DK {y:cb}:∀ (b a:List cb),y∈jK a b→y∈a∨y∈b
  | [],a,h => .inl h
  | x::r,a,h=>by
    rcases DK r (rb a x) h with h|h
    · unfold rb at h
      split at h
      · exact .inl h
      · rcases ae4.1 h with h|h
        · exact .inl h
        · exact .inr (by rw [t6] at h;subst h;exact i8)
    · exact .inr (i6 _ h)
mutual
def h0 (re:Bool):ao→List (List cb)
 | .mk o a p c n ks=>
  if o=1 then (if re then [] else [[]])
  else if o=5 then ia (!re) 0 ks
  else if (ao.mk o a p c n ks).c0 then [[(.mk o a p c n ks,re)]]
  else if re=decide (o=6) then ia re 0 ks++ia re 1 ks
  else (ia re 0 ks).flatMap fun x=>(ia re 1 ks).map (jK x)
def ia (re:Bool):Nat→List ao→List (List cb)
 | _,[]=>[]
 | 0,x::_=>h0 re x
 | n+1,_::r=>ia re n r
end
theorem tG (c:Bool):∀ (n:Nat) (l:List ao) (x:ao),l[n]? = some x→ia c n l=h0 c x
 | 0,y::r,x,h=>by rw [ia];simp at h;rw [h]
 | n+1,y::r,x,h=>by rw [ia];exact tG c n r x fV
theorem Mz (b:Bool) (f:ao):h0 b f=if f.op=1 then (if b then [] else [[]])
  else if f.op=5 then ia (!b) 0 f.kids
  else if f.c0 then [[(f,b)]]
  else if b=decide (f.op=6) then ia b 0 f.kids++ia b 1 f.kids
  else (ia b 0 f.kids).flatMap fun x=>(ia b 1 f.kids).map (jK x):=by cases f;rw [h0];rfl
def MA (n:Nat) (l:List cb):Prop:=l.length≤n∧∀ x∈l,x.1.size≤n
theorem Vn (f:ao):1≤f.size:=by rw [ao.size_eq];omega
mutual
theorem Hr:∀ (f:ao) (b:Bool),∀ l∈h0 b f,MA f.size l
  | .mk o a p c n ks,b,l,h=>by
    rw [h0] at h;have iD:=(ao.mk o a p c n ks).size_eq;have Vo:(ao.mk o a p c n ks).kids=ks:=rfl;rw [Vo] at iD;split at h
    · split at h
      · cases h
      · rw [t6] at h;subst h;exact ⟨by simp,by simp⟩
    · split at h
      · have:=uZ ks _ 0 l h
        exact ⟨by have:=this.1;omega,fun x ab=>by have:=this.2 x ab;omega⟩
      · split at h
        · rw [t6] at h;subst h
          exact ⟨Vn _,fun x ab=>by rw [t6] at ab;subst ab;exact g9 _⟩
        · split at h
          · rcases ae4.1 h with h|h
            · have:=uZ ks _ 0 l h
              exact ⟨by have:=this.1;omega,fun x ab=>by have:=this.2 x ab;omega⟩
            · have:=uZ ks _ 1 l h
              exact ⟨by have:=this.1;omega,fun x ab=>by have:=this.2 x ab;omega⟩
          · obtain ⟨x,ab,h⟩:=List.mem_flatMap.1 h
            obtain ⟨y,ax,rfl⟩:=ag0.1 h;have U:=MB ks b x y ab ax;refine ⟨by have:=Hq y x;omega,fun z bE=>?_⟩;rcases DK y x bE with bE|bE
            · have:=(uZ ks _ 0 x ab).2 z bE;omega
            · have:=(uZ ks _ 1 y ax).2 z bE;omega
theorem uZ:∀ (ks:List ao) (b:Bool) (n:Nat),∀ l∈ia b n ks,MA (ao.iC ks) l
  | [],b,n,l,h=>by rw [ia] at h;cases h
  | x::r,b,0,l,h=>by
    rw [ia] at h;have:=Hr x b l h;rw [ao.iC];exact ⟨by have:=this.1;omega,fun y ax=>by have:=this.2 y ax;omega⟩
  | x::r,b,n+1,l,h=>by
    rw [ia] at h;have:=uZ r b n l h;rw [ao.iC];exact ⟨by have:=this.1;omega,fun y ax=>by have:=this.2 y ax;omega⟩
theorem MB:∀ (ks:List ao) (b:Bool) (x y:List cb),x∈ia b 0 ks→y∈ia b 1 ks→x.length+y.length≤ao.iC ks
  | [],b,x,y,h,_=>by rw [ia] at h;cases h
  | k::r,b,x,y,h,eL=>by
    rw [tG b 0 (k::r) k C] at h;rw [show (1:Nat)=0+1 from rfl,ia] at eL;have U:=(Hr k b x h).1;have ad:=(uZ r b 0 y eL).1;rw [ao.iC];omega
end
end Go.Proofs.YtnafpeohfbglmaaGreat
