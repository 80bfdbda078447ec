import Derived.Test.YtnafpeohfbglmaaGreatMc
import Derived.Shelf.Sort.Plain
import Derived.KernelRfl
import Derived.WalkKit
import Derived.Defers
import Derived.Recover
import Derived.Laws.MakeOwn
import Derived.Laws.CopyRow
set_option linter.unusedVariables false
set_option linter.unusedSimpArgs false
set_option maxRecDepth 100000
set_option maxHeartbeats 4000000
open Array renaming ext_getElem?→au0,getElem?_eq_some_iff→i8,getElem?_modify→am0,getElem?_toList→as2,length_toList→ac6,replicate→ai7
open BitVec renaming ofInt→ah5,ofNat→ax4,toNat_and→au',toNat_ofNat→ai4,toNat_or→ay6
open Bool renaming and_eq_true→f6,and_false→ai5,eq_false_iff→ae9,eq_iff_iff→ad1,false_and→f7,not_false→ah3,not_true→ah7,or_assoc→ap1,or_eq_true→ag9,or_false→ak5,true_and→f4
open Int renaming le_refl→aj4,sub_zero→aA5,toNat_natCast→ac3
open Go.IntKind renaming bits→ak0,signed→av8,wrap→aa'
open List renaming any_eq_true→ae4,append_assoc→ae6,append_nil→d8,cons_append→t8,cons_beq_cons→ap8,contains_iff_mem→af8,drop_zero→aj',findIdx?_eq_none_iff→ag8,findIdx?_eq_some_iff_getElem→af2,getD_eq_getElem?_getD→d5,getElem?_append_left→ad3,getElem?_append_right→ad6,getElem?_eq_getElem→f8,getElem?_eq_some_iff→ac1,getElem?_map→ad7,getElem?_of_mem→ag7,getElem?_replicate→ar7,getElem?_take→af',getElem_mem→ak3,isEmpty→an2,length_append→d9,length_cons→i7,length_drop→ag1,length_filter_le→aj0,length_map→f5,length_replicate→ad',length_singleton→ac8,length_take_le'→ai1,length_take→ac9,map_append→ac2,map_cons→ac0,map_take→ap0,mem_append→ac7,mem_cons_of_mem→g7,mem_cons_self→i5,mem_cons→ad4,mem_filter→af4,mem_map→ad2,mem_of_getElem?→d6,mem_replicate→ar4,mem_singleton→t7,nil_append→d7,replicate→t6,size_toArray→ak8,take_add_one→ak7,take_append_drop→ag4,take_append_of_le_length→ag2,take_length→ac',take_of_length_le→ae8,take_zero→aj8
open Nat renaming and_le_left→as7,beq→ad0,blt→i9,eq_of_beq_eq_true→ab',eq_of_testBit_eq→al1,le_add_right→au5,le_refl→i0,le_trans→al5,lt_of_le_of_lt→ah9,lt_of_lt_of_le→ai3,lt_or_ge→ao6,lt_succ_iff_lt_or_eq→af3,lt_succ_self→ak',min_eq_left→ak1,mod_eq_of_lt→aj3,mul_le_mul_right→ak2,mul_one→ah2,not_lt_zero→an4,or_lt_two_pow→ag',pow_le_pow_right→af6,pow_lt_pow_right→ag6,sub_self→ao5,sub_zero→aA0,testBit_and→aj2,testBit_lt_two_pow→ak6,testBit_or→aj7,testBit_two_pow_sub_one→af9,testBit_two_pow→ai9,zero_add→ad8,zero_le→g9
open Option renaming getD_some→ae7,map_some→am3
open Go.Result renaming andThen_ok→g6
open Go.Sem renaming runT_eq→as0,run_bind→z2,run_pure→ac4
open Go.Proofs.Tryz renaming prog→d0
namespace Go.Proofs.YtnafpeohfbglmaaGreat
theorem Fa {p:Prop} (h:p:=by rw [bo];exact (by simp only [List.length_map,List.length_nil];exact a7)):p:=h
theorem xk {p:Prop} (h:p:=by repeat (first|exact trivial|refine ⟨⟨_,rfl,aM⟩,?_⟩|refine ⟨⟨_,rfl,aR.of_eq (by (first|rw [kV (by omega)]|(rw [List.map_append];rfl)))⟩,?_⟩)):p:=h
theorem o9 {p:Prop} (h:p:=by repeat (first|exact trivial|refine ⟨⟨_,rfl,aM⟩,?_⟩|refine ⟨⟨_,rfl,aR.of_eq (by (first|rw [kV (by omega)]|rw [ao]))⟩,?_⟩)):p:=h
theorem zk {p:Prop} (h:p:=by repeat (first|exact trivial|refine ⟨⟨_,rfl,aM⟩,?_⟩|refine ⟨⟨_,rfl,aR.of_eq (by simp)⟩,?_⟩)):p:=h
theorem Fb {p:Prop} (h:p:=by show aH _ [(_,.row _ _ (xs (j+1)).length)] _;rw [dj];exact aH.cons bl.here .nil):p:=h
theorem Cb {p:Prop} (h:p:=by (rw [er (by omega) (by omega)];push_cast;rfl)):p:=h
theorem Fc {p:Prop} (h:p:=by rw [er (by omega) (by omega)];omega):p:=h
theorem Fe {p:Prop} (h:p:=by (rw [er (by omega) (by omega)];rfl)):p:=h
theorem Ff {p:Prop} (h:p:=by show cur.length-(i+1)<cur.length-i;omega):p:=h
theorem Fg {p:Prop} (h:p:=by show 2+g.length-(j+1)<2+g.length-j;omega):p:=h
theorem q5 {p:Prop} (h:p:=by show xs.length-(j+1)<xs.length-j;omega):p:=h
theorem zl {p:Prop} (h:p:=by show a.length-(j+1)<a.length-j;omega):p:=h
theorem zm {p:Prop} (h:p:=by show g.length-(j+1)<g.length-j;omega):p:=h
theorem tD {p:Prop} (h:p:=by rw [List.length_replicate];omega):p:=h
theorem pa {p:Prop} (h:p:=by show (_+1)*24≤_;omega):p:=h
theorem kX {p:Prop} (h:p:=by show (_+1)*8≤_;omega):p:=h
theorem hh {p:Prop} (h:p:=by intro b h;cases h):p:=h
theorem vy {p:Prop} (h:p:=by simpa using U):p:=h
theorem ef {p:Prop} (h:p:=by intro k;simp):p:=h
theorem h7 {p:Prop} (h:p:=by simp<;>omega):p:=h
theorem dE {p:Prop} (h:p:=by decide):p:=h
def ea (b n cap:Nat):af := .hl (.slice (some ⟨b,0,none⟩) n cap)
theorem bD.zn {w:World} {p:bO}:∀ vs:List Value,bD w p vs (vs.map fun _ => .any)
 | [] => .nil
 | v::vs => .cons v .any vs _ (.any v) (bD.zn vs)
theorem zo {v:Value} (h:v.oneCell'=true):v.cells = #[v]:=by
 cases v<;>first|rfl|(simp [Value.oneCell'] at h;done)
theorem sx:∀ {vs:List Value},(∀ v∈vs,v.oneCell'=true)→flat vs=vs
  | [],_=>rfl
  | v::vs,h=>by
    have U:=sx (vs:=vs) fun u hu=>h u (g7 _ hu)
    unfold flat at U ⊢;rw [List.flatMap_cons,U,zo (h v i5)];rfl
section
variable {P:Program} {Γ:cj} {N:Nat} {ops:Array Oper} {Q:bX→Env→ak→Prop} {env:Env} {s:ak} {l:List Oper} {o:Oper} {d:Nat} {L R:a6}
def Grown (s:ak) (R:a6) (e:TypeId) (n:Nat) (xs:List af) (r:af) (ai:ak):Prop:=
 ∃ aT b8 cs',r=ea aT n b8∧ai=aQ s ((.own aT,.box e cs')::R)∧Ok s ((.own aT,.box e cs')::R)∧cs'.length=b8∧n≤b8∧cs'.take n=xs
theorem JY (aP:bM P Γ) {w:World} {p:bO} {S:ak} (b5:df w p S) {t bI e ty:TypeId} {it cz aG:bL} {bW:Nat} {olds:List Value} {xs:List af} {v:af} {dx:bN} {base:Option Addr} {n cap:Nat} {p7:Value}
  (aK:Γ.get? t=some it) (br:it.bE = .ay e) (c4:Γ.get? bI=some cz) (dC:∀ k,cz.bE ≠ .int k) (bH:Γ.get? e=some aG) (U:aG.size=1) (d':ad0 aG.zero.cells.size aG.size=true)
  (aC:bD w p olds xs) (aA:n=xs.length) (se:(Builtin.firstCells 1 n (.slice base n cap)).run P w.drew = .ok olds.toArray w.drew) (ax:Rel w p p7 (.ay bW [v] dx)) (c':bW=1) (dS:e4 v=true)
  (az:cap<n+1) (an:(n+1)*aG.bytes≤140737488355328) (en:n+1≤9223372036854775807) :
  ∃ aT b8 cs' w',(Builtin.append_ #[t,bI] ty #[.slice base n cap,p7]).run P w = .ok (.slice (some ⟨aT,0,none⟩) (n+1) b8) w'∧S aT=none∧c8 w p w' p∧Kept S (S.set aT (.box e cs')) w p w' p∧df w' p (S.set aT (.box e cs')) ∧
   cs'.length=b8∧n+1≤b8∧cs'.take (n+1)=xs++[v]:=by
 obtain ⟨info,d,g1,g2,g3,-⟩:=aP.parts aK;obtain ⟨l8,cX,dV,dg,dB,-⟩:=aP.parts c4;obtain ⟨jx,jZ,cv,db,e8,ew,jy,iY⟩:=aP.parts bH;have av:d = .slice e:=by rw [br] at g3;cases d<;>simp [eh] at g3;rw [g3]
 subst av;have cc:∀ k,cX ≠ .int k:=fun k e'=>by subst e';exact dC k dB.symm
 obtain ⟨us,h3,oX,jz,jQ,sg,sh,si⟩:=pS ax (.inr c');have mc:=h3.length;cases h3 with
 | cons u _ u1 _ hu vz=>
 cases vz;subst c';have sy:flat [u]=[u]:=sx (by intro x ab;rw [t7] at ab;subst ab;exact Ep hu dS);have fl:=growslice_fits (need:=n+1) (old:=cap) (bytes:=aG.bytes) az an;have cK:=yW (ty:=ty) w g2 dg cc cv iY (base:=base) (sLen:=n) (sCap:=cap) (m:=1) (olds:=olds) (news:=[u]) (jz P)
  (by rw [ew,U];exact se) (by rw [ew,U,← sy];exact jQ P w.drew (fun _ _ _=>rfl)) az ag (by rw [jy];exact fl)
 have mS:n+1≤grownCap w (n+1) cap e:=by simp [grownCap,Question.cut]
 have gh:olds.length=n:=by rw [aC.length,aA]
 have n6:=ab' d';generalize sf:(Builtin.zeroCells aG.zero.cells (grownCap w (n+1) cap e-(n+1))).toList=aV at cK;have mT:aV.length=grownCap w (n+1) cap e-(n+1):=by
  rw [← sf,ac6];simp [Builtin.zeroCells,n6,U]
 generalize grownCap w (n+1) cap e=G at cK mS mT;have vA:=w1 b5
 obtain ⟨ao,hle,aD,ku⟩:=qR vA (.cells (olds++[u]++aV).toArray e (0,0)) (.box e (xs++[v]++aV.map fun _ => .any)) (fun w' h2 ar fq=>⟨_,h2,by
  refine bD.append (bD.append (fq _ _ (show bD w.drew p olds xs from aC.mono kn)) (fq _ _ (.cons _ _ _ _ (hu.mono kn) .nil))) (bD.zn aV),fun o aE=>absurd (b5.lt _ _ aE) (by show ¬ w.heap.size<w.heap.size;omega)⟩)
 rw [show w.drew.heap.size=w.heap.size from rfl] at ao aD ku;refine ⟨w.heap.size,G,xs++[v]++aV.map (fun _=>af.any),_,cK,ao,kn.trans hle,(uR (w:=w) (p:=p)).trans (kn (w:=w) (p:=p)).size aD,ku,?_,mS,?_⟩
 ·simp only [d9,f5,ac8,mT];omega
 ·rw [ag2 cO,ae8 cO]
theorem tE {t bI:TypeId} {x y:Operand} {a:Act} {val:Value} {w w':World} (ah:o.op = .call { callee := .builtin .append,args := #[x,y],argTypes := #[t,bI] }) (h:(Builtin.append_ #[t,bI] o.type #[a.eval x,a.eval y]).run P w = .ok val w') :
  (execOp a.eval o).run P w = .ok (.value val) w':=by
 unfold execOp;rw [ah];simp only [resolve,invoke,builtin,z2,ac4,g6,List.map_toArray,ac0,List.map_nil,h]
theorem aW.Cc (aP:bM P Γ) (I:Ok s L) {t bI e:TypeId} {x y:Operand} {it cz aG:bL} {ed bW:Nat} {v:af} {dx:bN}
  (ah:o.op = .call { callee := .builtin .append,args := #[x,y],argTypes := #[t,bI] }) (aK:Γ.get? t=some it) (br:it.bE = .ay e) (c4:Γ.get? bI=some cz) (dC:∀ k,cz.bE ≠ .int k)
  (bH:Γ.get? e=some aG) (U:aG.size=1) (d':ad0 aG.zero.cells.size aG.size=true) (ab:aJ env x=some (.ay ed [] .nil)) (ax:aJ env y=some (.ay bW [v] dx)) (c':bW=1) (dS:e4 v=true) (an:1*aG.bytes≤140737488355328)
  {X:af→ak→Prop}:aW P N o env (aQ s L) (fun r ai=>Grown s L e 1 [v] r ai) X:=by
 refine aW.jY iN fun ro B a w p aI=>?_
 have fN:=aI.aJ ab;have fe:=aI.aJ ax;have eC:=fun val w'=>tE (P:=P) (a:=a) (val:=val) (w:=w) (w':=w') ah
 generalize ei:a.eval x=dG at fN eC;generalize e9:a.eval y=fJ at fe eC;have sA:dG = .slice none 0 0:=by
  cases fN with
  | hL=>rfl
  | ib a _ _ h=>rcases h with h|h<;>cases h
  | ay g off n cap _ vs _ _ aA=>exact absurd C aA
 subst sA
 obtain ⟨aT,b8,cs',w',fg,gf,hg,iL,lM,lN,mq,mr⟩:=JY (ty:=o.type) aP aI.wf (base:=none) (n:=0) (cap:=0) (olds:=[]) (xs:=[]) aK br c4 dC bH U d' .nil rfl (by
  have:=run_firstCells_none (P:=P) w.drew 1 0 0 0
  simpa using this) fe c' dS ag (by simpa using an) ag
 exact ⟨_,w',_,p,_,eC _ _ fg,hg,iL,lM,⟨aT,b8,cs',rfl,rfl,⟨gf,I⟩,lN,mq,by simpa using mr⟩,.hl _⟩
theorem aW.Cd (aP:bM P Γ) (I:Ok s L) {t bI e:TypeId} {x y:Operand} {it cz aG:bL} {b n cap bW:Nat} {cs:List af} {v:af} {dx:bN}
    (ah:o.op = .call { callee := .builtin .append,args := #[x,y],argTypes := #[t,bI] }) (aK:Γ.get? t=some it) (br:it.bE = .ay e) (c4:Γ.get? bI=some cz) (dC:∀ k,cz.bE ≠ .int k)
    (bH:Γ.get? e=some aG) (U:aG.size=1) (d':ad0 aG.zero.cells.size aG.size=true) (ab:aJ env x=some (ea b n cap)) (ao:bl L (.own b) (.box e cs) R) (cu:cs.length=cap) (aA:n≤cap) (ih:(cs.take n).all e4=true)
    (ax:aJ env y=some (.ay bW [v] dx)) (c':bW=1) (dS:e4 v=true) (an:(n+1)*aG.bytes≤140737488355328) (en:n+1≤9223372036854775807)
    {X:af→ak→Prop}:aW P N o env (aQ s L) (fun r ai=>Grown s R e (n+1) (cs.take n++[v]) r ai) X:=by
  obtain ⟨b7,bR,eE⟩:=ao.perm I;refine aW.jY iN fun ro B a w p aI=>?_
  have fN:=aI.aJ ab;have fe:=aI.aJ ax;have eC:=fun val w'=>tE (P:=P) (a:=a) (val:=val) (w:=w) (w':=w') ah
  generalize ei:a.eval x=dG at fN eC;generalize e9:a.eval y=fJ at fe eC;cases fN;obtain ⟨vs,cP,c9,eP⟩:=aI.wf.obj _ _ (ao.get I);have fq:vs.toList.length=cap:=by rw [c9.length,cu]
  have hv:=c9.take n;have vB:=pQ hv ih;have o0:∀ w':World,(∀ j,w'.cell? ⟨b,j,none⟩=w.cell? ⟨b,j,none⟩)→(Builtin.firstCells 1 n (.slice (some ⟨b,0,none⟩) n cap)).run P w' = .ok (vs.toList.take n).toArray w':=by
    intro w' h2;refine run_firstCells_some (P:=P) w' 1 n ⟨b,0,none⟩ n cap (vs.toList.take n) (by rw [ac9,fq];omega) (fun j u hu=>?_);rw [kP,ad8,h2,jq cP];rw [af'] at hu;split at hu
    · simpa using hu
    · cases hu
  by_cases az:cap<n+1
  · obtain ⟨aT,b8,cs',w',fg,gf,hg,iL,lM,lN,mq,mr⟩:=JY (ty:=o.type) aP aI.wf (base:=some ⟨b,0,none⟩) (n:=n) (cap:=cap) (olds:=vs.toList.take n) (xs:=cs.take n) aK br c4 dC bH U d' hv wU
      (o0 w.drew fun _=>rfl) fe c' dS az an en
    have hC:ak.Sub ((aQ s R).set aT (.box e cs')) ((aQ s L).set aT (.box e cs')):=by
      refine B7 (k := .own aT) ?_;rw [b7];exact xh (k := .own b) (ak.n7 _) bR
    have au:aQ s R aT=none:=by
      have h:=gf;rw [b7] at h;exact (ak.tq h).2
    exact ⟨_,w',_,p,_,eC _ _ fg,hg,iL.sub hC,lM.sub hC,⟨aT,b8,cs',rfl,rfl,⟨au,eE⟩,lN,mq,mr⟩,.hl _⟩
  · obtain ⟨info,d,g1,g2,g3,-⟩:=aP.parts aK
    obtain ⟨l8,cX,dV,dg,dB,-⟩:=aP.parts c4;obtain ⟨jx,jZ,cv,db,e8,ew,jy,iY⟩:=aP.parts bH;have av:d = .slice e:=by rw [br] at g3;cases d<;>simp [eh] at g3;rw [g3]
    subst av;have cc:∀ k,cX ≠ .int k:=fun k e'=>by subst e';exact dC k dB.symm
    subst c';obtain ⟨us,h3,oX,jz,jQ,sg,sh,si⟩:=pS (sz':=1) fe (.inr rfl);cases h3 with
    | cons u _ u1 _ hu vz=>
    cases vz;have lR:∀ x∈[u],x.oneCell'=true:=by intro x ab;rw [t7] at ab;subst ab;exact Ep hu dS
    have sy:flat [u]=[u]:=sx lR;have eB:vs.size=cap:=by rw [← ac6];exact fq
    have cK:=BE (ty:=o.type) (P:=P) w g2 dg cc cv b n cap vs cP (xv:=fJ) (m:=1) (news:=[u]) (jz P) (by rw [ew,U,← sy];exact jQ P w (fun _ _ _=>rfl)) lR ag (by rw [ew,U,eB];simp;omega);rw [ew,U,ah2] at cK;have gW:bD w p (vs.toList.take n++[u]++vs.toList.drop (n+[u].length)) (cs.take n++[v]++cs.drop (n+1)):=bD.append (bD.append hv (.cons _ _ _ _ hu .nil)) (c9.drop _);have b6:(aQ s L) b=some (.box e cs):=ao.get I
    obtain ⟨eg,ky,iP⟩:=u0 aI.wf b6 (vs':=(vs.toList.take n++[u]++vs.toList.drop (n+[u].length)).toArray) (cs':=cs.take n++[v]++cs.drop (n+1)) (fun zp bo=>by
      rw [cP] at bo;cases bo
      simp only [ak8,d9,ac9,ag1,ac8,fq]
      rw [eB];omega) (by simpa using gW) _ C
    obtain ⟨f1,f2⟩:=ao.put (.box e (cs.take n++[v]++cs.drop (n+1))) I;refine ⟨_,_,_,p,_,eC _ _ cK,eg,ky,iP,⟨b,cap,cs.take n++[v]++cs.drop (n+1),rfl,f1,f2,?_,by omega,?_⟩,.hl _⟩
    · simp only [d9,ac9,ag1,ac8,cu];omega
    · have:(cs.take n++[v]).length=n+1:=by simp [cu];omega
      rw [ag2 ag,ae8 ag]
theorem aa.Cc (aP:bM P Γ) (I:Ok s L) {t bI e:TypeId} {x y:Operand} {it cz aG:bL} {ed bW:Nat} {v:af} {dx:bN} (au:guardOf ops env o=some true) (av:o.dst=some d) (aY:i9 d N=true)
  (ah:o.op = .call { callee := .builtin .append,args := #[x,y],argTypes := #[t,bI] }) (aK:Γ.get? t=some it) (br:it.bE = .ay e) (c4:Γ.get? bI=some cz) (dC:∀ k,cz.bE ≠ .int k)
  (bH:Γ.get? e=some aG) (U:aG.size=1) (d':ad0 aG.zero.cells.size aG.size=true) (ab:aJ env x=some (.ay ed [] .nil)) (ax:aJ env y=some (.ay bW [v] dx)) (c':bW=1) (dS:e4 v=true) (an:1*aG.bytes≤140737488355328)
  (h:∀ aT b8 cs',cs'.length=b8→1≤b8→cs'.take 1=[v]→Ok s ((.own aT,.box e cs')::L)→aa P N ops l Q ((d,ea aT 1 b8)::env) (aQ s ((.own aT,.box e cs')::L))):aa P N ops (o::l) Q env (aQ s L):=by
 refine aa.op au av aY (aW.Cc aP I ah aK br c4 dC bH U d' ab ax c' dS an (X:=fun _ _=>False)) ?_ (fun _ _ h=>h.elim);rintro r ai ⟨aT,b8,cs',rfl,rfl,ad,al,bd,bB⟩;exact h aT b8 cs' al bd bB ad
theorem aa.Cd (aP:bM P Γ) (I:Ok s L) {t bI e:TypeId} {x y:Operand} {it cz aG:bL} {b n cap bW:Nat} {cs:List af} {v:af} {dx:bN} (au:guardOf ops env o=some true) (av:o.dst=some d) (aY:i9 d N=true)
  (ah:o.op = .call { callee := .builtin .append,args := #[x,y],argTypes := #[t,bI] }) (aK:Γ.get? t=some it) (br:it.bE = .ay e) (c4:Γ.get? bI=some cz) (dC:∀ k,cz.bE ≠ .int k)
  (bH:Γ.get? e=some aG) (U:aG.size=1) (d':ad0 aG.zero.cells.size aG.size=true) (ab:aJ env x=some (ea b n cap)) (ao:bl L (.own b) (.box e cs) R) (cu:cs.length=cap) (aA:n≤cap) (ih:(cs.take n).all e4=true)
  (ax:aJ env y=some (.ay bW [v] dx)) (c':bW=1) (dS:e4 v=true) (an:(n+1)*aG.bytes≤140737488355328) (en:n+1≤9223372036854775807)
  (h:∀ aT b8 cs',cs'.length=b8→n+1≤b8→cs'.take (n+1)=cs.take n++[v]→Ok s ((.own aT,.box e cs')::R)→aa P N ops l Q ((d,ea aT (n+1) b8)::env) (aQ s ((.own aT,.box e cs')::R))):aa P N ops (o::l) Q env (aQ s L):=by
 refine aa.op au av aY (aW.Cd aP I ah aK br c4 dC bH U d' ab ao cu aA ih ax c' dS an en (X:=fun _ _=>False)) ?_ (fun _ _ h=>h.elim);rintro r ai ⟨aT,b8,cs',rfl,rfl,ad,al,bd,bB⟩;exact h aT b8 cs' al bd bB ad
theorem dq.tF {B:fx} {ro:Option Nat} {a:Act} {w:World} {p:bO} (h:dq N B ro env s a w p) {t b n cap:Nat} {T:TypeId} {cs:List af} (aK:env.get? t=some (ea b n cap)) (ao:s b=some (.box T cs)) (cu:cs.length=cap) (aA:n≤cap) (hm:n≤9223372036854775807)
  (ih:(cs.take n).all e4=true):∃ bg,dq N B ro ((t,.ay 1 (cs.take n) .aZ)::env) (s.del b) a w bg∧c8 w p w bg∧Kept s (s.del b) w p w bg:=by
 have EP:dq N B ro ((a.tmps.size,.any)::[]) s a w p:=h.restrict _ (fun t v ar=>by
  simp only [Env.get?] at ar
  split at ar
  ·cases ar;exact .any _
  ·cases ar)
 obtain ⟨vs,U,ad,al⟩:=h.wf.obj _ _ ao;have az:b<w.heap.size:=(i8.1 U).1;have hle:c8 w p w (p.dR b True):=⟨rfl,rfl,rfl,i0 _,fun _ _ h => .inl h,fun _ _ _=>rfl,fun _ _ h=>h⟩
 have aD:Kept s (s.del b) w p w (p.dR b True):=⟨fun _ _ _=>rfl,fun aT an aA=>by
  by_cases e:aT=b
  ·subst e;exact ak.mR _ _
  ·rw [ak.l' _ e];exact aA,fun aT o an aA aE=>by
   rcases aE with aE|⟨rfl,_⟩
   ·exact aE
   ·rw [ao] at aA;cases aA⟩
 have b5:df w (p.dR b True) (s.del b):=by
  refine ⟨fun aT o an=>?_,fun aT o aE=>by rcases aE with aE|⟨rfl,_⟩;exact h.wf.lt _ _ aE;exact az⟩;by_cases e:aT=b
  ·subst e;rw [ak.mR] at an;cases an
  ·rw [ak.l' _ e] at an
   have ah:=h.wf.obj aT o an;have fc:∀ o,p.dR b True aT o↔p aT o:=fun o=>⟨fun aE=>by rcases aE with aE|⟨e',_⟩;exact aE;exact absurd e' e,.inl⟩
   cases o with
   | box t c=>obtain ⟨us,g1,g2,g3⟩:=ah;exact ⟨us,g1,g2.mono hle,fun o aE=>g3 o ((fc o).1 aE)⟩
   | row t sz n=>obtain ⟨cur,g1,g2,g3,g4⟩:=ah;exact ⟨cur,g1,g2,g3,fun o=>(fc o).trans (g4 o)⟩
   | map es=>obtain ⟨cJ,c,g1,g2,g3⟩:=ah;exact ⟨cJ,c,g1,⟨g2.1.mono hle,g2.2.mono hle⟩,g3⟩
   | kN es it l c=>exact ah.pL hle C C
   | tick m=>exact ah
   | loop r env=>exact ⟨ah.1,fun t v h=>(ah.2 t v h).mono hle⟩
 have aI:=h.step hle aD b5;refine ⟨_,⟨aI.size,fun bI v ar=>?_,aI.wf,aI.defs,aI.round,aI.base⟩,hle,aD⟩;simp only [Env.get?] at ar;split at ar
 ·rename_i he
  have:=ab' he;subst this;cases ar;have aC:=h.env t _ aK;generalize a.tmps.getD t undef=dG at aC;cases aC;have hv:=ad.take n;have vB:=pQ hv ih;have jX:=sx vB;refine .ay b 0 n cap 1 (vs.toList.take n) (cs.take n) .aZ bc wU ?_ (hv.mono hle) (fun v ar=>by rw [zo (vB v ar)];rfl) hm aA (fun h=>by cases h) (fun b h=>by cases h);rw [jX];intro i v aS;refine ⟨.inr ⟨rfl,trivial⟩,?_⟩;rw [ad8,jq U];rw [af'] at aS;split at aS
  ·simpa using aS
  ·cases aS
 ·exact aI.env bI v ar
theorem ae.tF {c:Code} (I:Ok s L) (t b:Nat) {n cap:Nat} {T:TypeId} {cs:List af} (aK:env.get? t=some (ea b n cap)) (ao:bl L (.own b) (.box T cs) R) (cu:cs.length=cap) (aA:n≤cap) (hm:n≤9223372036854775807) (ih:(cs.take n).all e4=true)
  (h:Ok s R→ae P N c Q ((t,.ay 1 (cs.take n) .aZ)::env) (aQ s R)):ae P N c Q env (aQ s L):=by
 obtain ⟨U,ad⟩:=ao.del I;intro sB B a w p eU aI;obtain ⟨bg,al,bd,bB⟩:=aI.tF aK (ao.get I) cu aA hm ih;rw [U] at al bB;exact lG (h ad sB B a w bg eU al) fun _ _ _ q=>q.after bd bB
end
section
open Go.Sort
variable {P:Program} {α:Type}
theorem zq {w:World} {p:bO} (k:Nat):c8 w p (Sort.ahead w k) p:=⟨rfl,rfl,rfl,i0 _,fun _ _ h=>h,fun _ _ _=>rfl,fun _ _ h=>h⟩
theorem Sk {w:World} {p:bO} {s:ak} (k:Nat) (h:df w p s):df (Sort.ahead w k) p s:=h.grow (zq k) (fun _ _=>rfl) (fun _ _ _ h=>h) h.lt
theorem Sl {w:World} {p:bO} {s:ak} (k:Nat):Kept s s w p (Sort.ahead w k) p:=⟨fun _ _ _=>rfl,fun _ _ h=>h,fun _ _ _ _ h=>h⟩
theorem Fh (w:World) (os:Array Obj) (b:Nat) (h:b<w.heap.size):(grow w os).heap[b]? = w.heap[b]?:=by
 show (w.heap++os)[b]? = _;rw [Array.getElem?_append_left h]
theorem JZ {w:World} {p:bO} (az:∀ b o,p b o→b<w.heap.size) (os:Array Obj):c8 w p (grow w os) p:=
 c8.of_heap C C C (by show w.heap.size≤(w.heap++os).size;simp) (fun _ _ h=>h) az (fun b an=>Fh w os b an)
theorem Sm {w:World} {p:bO} {s:ak} (h:df w p s) (os:Array Obj):df (grow w os) p s:=
 h.grow (JZ h.lt os) (fun b an=>Fh w os b an) (fun _ _ _ h=>h) (fun b o aE=>ai3 (h.lt b o aE) (by show w.heap.size≤(w.heap++os).size;simp))
theorem Sn {w:World} {p:bO} {s:ak} (os:Array Obj):Kept s s w p (grow w os) p:=⟨fun b an _=>Fh w os b an,fun _ _ h=>h,fun _ _ _ _ h=>h⟩
theorem J0 {w:World} {p:bO} {enc:α→Value} {encA:α→af} (ad:∀ w p a,Rel w p (enc a) (encA a)):∀ l:List α,bD w p (l.map enc) (l.map encA)
 | [] => .nil
 | a::l => .cons _ _ _ _ (ad w p a) (J0 ad l)
theorem J1 {w:World} {p:bO} {enc:α→Value} {encA:α→af} (U:∀ w p v a,Rel w p v (encA a)→v=enc a):∀ {l:List α} {vs:List Value},bD w p vs (l.map encA)→vs=l.map enc
  | [],vs,h=>by cases h;rfl
  | a::l,vs,h=>by
    cases h with
    | cons v _ vs' _ ar aK=>rw [U _ _ _ _ ar,J1 U aK];rfl
variable [Inhabited α]
theorem bz.sort {f:FuncId} {enc:α→Value} {encA:α→af} {le:α→α→Bool} {e:TypeId} (aF:sm P f) (U:∀ w p v a,Rel w p v (encA a)→v=enc a) (ad:∀ w p a,Rel w p (enc a) (encA a))
  (Sp:∀ (q6 off cap:Nat) (fX:List α) (w:World),Holds enc w q6 off fX.toArray→q6<w.heap.size→fX.length<4611686018427387904→Calls P f #[.slice (some ⟨q6,off,none⟩) fX.length cap] w fun e w'=>e = .returned (.tuple #[])∧∃ n os,w'=grow (putRow enc (Sort.ahead w n) q6 off (fX.mergeSort le).toArray) os)
  (b cap:Nat) (fX:List α) (rest:List af) (aB:fX.length<4611686018427387904) :
  bz P f [ea b fX.length cap] [(.own b,.box e (fX.map encA++rest))] (fun o K=>o = .ret (.cg [])∧K=[(.own b,.box e ((fX.mergeSort le).map encA++rest))]):=by
 intro s I;refine ⟨aF,fun w p vs b5 eG=>?_⟩;cases eG with
 | cons v _ vs' _ ar aK=>
 cases aK;cases ar;obtain ⟨cur,cP,c9,eP⟩:=b5.obj b _ (ak.fT _ _ _);have az:b<w.heap.size:=(i8.1 cP).1;have cu:cur.toList=fX.map enc++cur.toList.drop fX.length:=by
  have al:=c9.take fX.length;rw [ag2 bc,ae8 (l:=fX.map encA) bc] at al;rw [← J1 U al,ag4]
 have hp:fX.length≤cur.size:=by
  have:=c9.length;rw [ac6] at this;rw [this];simp
 have Fi:Holds enc w b 0 fX.toArray:=by
  intro j aO;have Fj:j<fX.length:=by simpa using aO
  refine ⟨?_,by simp [World.frozen?,cP]⟩;rw [ad8,jq cP,← as2,cu,ad3 (by simpa using Fj),ad7,f8 Fj];simp [Fj]
 refine Calls.mono (Sp b 0 cap fX w Fi az aB) ?_;rintro Ce w' ⟨rfl,k,os,rfl⟩;refine ⟨by simp,.ret (.cg []),aQ s [(.own b,.box e ((fX.mergeSort le).map encA++rest))],p,.cg #[] [] .nil,⟨_,rfl,I,rfl,rfl⟩,?_⟩;have h5:(fX.mergeSort le).length=fX.length:=List.length_mergeSort fX;have y7:putRow enc (Sort.ahead w k) b 0 (fX.mergeSort le).toArray=(Sort.ahead w k).setRow b ((fX.mergeSort le).map enc++cur.toList.drop fX.length).toArray:=by
  unfold putRow mapBlock World.setRow;congr 1;refine au0 fun i=>?_
  rw [am0,am0];by_cases e:b=i
  ·subst e
   rw [f9 C,f9 C];show (w.heap[b]?).map _=(w.heap[b]?).map _;rw [cP];simp only [am3,onCells];congr 2;refine au0 fun j=>?_
   simp only [putCells,Array.getElem?_mapIdx,g9,true_and,ad8,ak8,h5,aA0];rw [← as2,← as2];by_cases aO:j<fX.length
   ·rw [ad3 (by rw [f5,h5];exact aO),ad7,f8 (l:=fX.mergeSort le) (by rw [h5];exact aO)]
    have:j<cur.toList.length:=by rw [ac6];omega
    rw [f8 this];simp [aO,h5]
   ·rw [ad6 (by rw [f5,h5];omega),f5,h5,List.getElem?_drop]
    rw [show fX.length+(j-fX.length)=j by omega];cases cur.toList[j]? with
    | none=>rfl
    | some y=>simp [aO]
  ·rw [f0 e,f0 e]
 rw [y7];have gW:bD w p (((fX.mergeSort le).map enc++cur.toList.drop fX.length).toArray).toList ((fX.mergeSort le).map encA++rest):=by
  refine bD.append (J0 ad _) ?_;have:=c9.drop fX.length;rwa [List.drop_append_of_le_length bc,List.drop_of_length_le (l:=fX.map encA) bc,d7] at this
 have dm:=Sk k b5;have b6:(aQ s [(.own b,.box e (fX.map encA++rest))]) b=some (.box e (fX.map encA++rest)):=ak.fT _ _ _
 obtain ⟨eg,ky,iP⟩:=u0 dm b6 (vs':=((fX.mergeSort le).map enc++cur.toList.drop fX.length).toArray) (cs':=(fX.mergeSort le).map encA++rest) (fun zp bo=>by
  have J2:w.heap[b]? = some (.cells zp e (0,0)):=bo
  rw [cP] at J2;cases J2
  simp only [ak8,d9,f5,h5,ag1,ac6]
  omega) (gW.mono (zq k)) _ C
 rw [show (aQ s [(.own b,.box e (fX.map encA++rest))]).set b (.box e ((fX.mergeSort le).map encA++rest))=aQ s [(.own b,.box e ((fX.mergeSort le).map encA++rest))] from ak.set_set _ _ _ _] at ky iP;refine ⟨((zq k).trans eg).trans (JZ iP.lt os),((Sl k).trans (zq (p:=p) k).size ky).trans ((zq k).trans eg).size (Sn os),Sm iP os⟩
end
section
variable {P:Program} {Γ:cj} {N:Nat} {ops:Array Oper} {Q:bX→Env→ak→Prop} {env:Env} {s:ak} {l:List Oper} {o:Oper} {d:Nat} {L R dk:a6}
end
section
variable {P:Program} {Γ:cj} {N:Nat} {env:Env} {s:ak}
variable {ops:Array Oper} {l:List Oper} {Q:bX→Env→ak→Prop} {o:Oper} {d m:Nat}
end
theorem ba.dW {P:Program} {Γ:cj} {N:Nat} {ops:Array Oper} {Q:bX→Env→ak→Prop} {D:Nat→Bool} {env:Env} {s:ak} (t:Nat) {b:Bool} (ar:env.get? t=some (.bool b)) (he:b=true)
  (h:ba P Γ N ops Q D ((t,.bool true)::env) s):ba P Γ N ops Q D env s:=by
 subst he;refine ba.congr _ (fun x=>?_) h;show (if ad0 t x then _ else _)=_;split
 ·rename_i ab
  rw [← ar,ab' ab]
 ·rfl
theorem ba.dc {P:Program} {Γ:cj} {N:Nat} {ops:Array Oper} {Q:bX→Env→ak→Prop} {D:Nat→Bool} {env:Env} {s:ak} (t:Nat) {b:Bool} (ar:env.get? t=some (.bool b)) (he:b=false)
  (h:ba P Γ N ops Q D ((t,.bool false)::env) s):ba P Γ N ops Q D env s:=by
 subst he;refine ba.congr _ (fun x=>?_) h;show (if ad0 t x then _ else _)=_;split
 ·rename_i ab
  rw [← ar,ab' ab]
 ·rfl
section
variable {P:Program} {Γ:cj} {N:Nat} {Q:bX→Env→ak→Prop} {env:Env} {s:ak} {l:List Oper} {m:Nat}
theorem ba.EY (aP:bM P Γ) {i:Nat} {o:Oper} {d:Nat} {t bI e:TypeId} {x y:Operand} {it cz aG:bL} {ed bW n:Nat} {xs ys:List af} {own dx:bN} (aC:eD l.toArray m (idxs 0 l)=[i]) (ah:l.toArray[i]? = some o) (av:o.dst=some d) (aY:i9 d N=true)
  (au:cY l env o) (bV:o.op = .call { callee := .builtin .append,args := #[x,y],argTypes := #[t,bI] }) (aK:Γ.get? t=some it) (br:it.bE = .ay e) (c4:Γ.get? bI=some cz) (dC:∀ k,cz.bE ≠ .int k)
  (bH:Γ.get? e=some aG) (ab:aJ (bU l env o) x=some (.ay ed xs own)) (ax:aJ (bU l env o) y=some (.ay bW ys dx)) (hO:ed=aG.size) (c':ys=[]∨bW=aG.size)
  (d':ad0 aG.zero.cells.size aG.size=true) (dS:∀ y∈ys,iK aG.size y=true) (an:(xs.length+ys.length)*aG.bytes≤140737488355328) (en:xs.length+ys.length≤9223372036854775807) (aA:n=xs.length)
  {pb:ak} (ao:pb=rowOf s e aG.size n own) (I:p3 s n own)
  (h:∀ c5,p3 s (xs.length+ys.length) c5→ba P Γ N l.toArray Q (bQ (m|||2^i)) ((d,.ay aG.size (xs++ys) c5)::env) (rowOf s e aG.size (xs.length+ys.length) c5)):ba P Γ N l.toArray Q (bQ m) env pb:=by
 subst ao;subst aA;refine ba.one aC ah av aY au (aW.EY aP bV aK br c4 dC bH ab ax hO c' d' dS an en C I (X:=fun _ _=>False)) ?_ (fun _ _ h=>h.elim);rintro r ai ⟨c5,U,-,-,rfl,rfl⟩;exact h c5 U
end
theorem gX.args {P:Program} {f:FuncId} {xs ys:List af} {s:ak} {R:eo→ak→Prop} (aB:cM xs ys) (h:gX P f ys s R):gX P f xs s R:=
 ⟨h.1,fun w p vs b5 aC=>h.2 w p vs b5 (aB.rel aC)⟩
theorem bz.args {P:Program} {f:FuncId} {xs ys:List af} {K:a6} {ace:eo→a6→Prop} (h:cM xs ys) (k:bz P f ys K ace):bz P f xs K ace:=fun s I=>gX.args h (k s I)
theorem aU.args {P:Program} {f:FuncId} {xs ys:List af} {v:af} (h:cM xs ys) (k:aU P f ys v):aU P f xs v:=fun s=>gX.args h (k s)
theorem pc {Γ:cj} {env:Env} {s:ak} {a b:Nat} {t T:TypeId} {i:bL} {cs:List af} {v:af} (he:env.get? a=some (.ptr b 0)) (aS:Γ.get? t=some i) (ao:s b=some (.box T cs)) (aB:hD i cs 0=some v) :
  nt Γ env s [.cell a t]=some v:=by simp [nt,vb,y4,he,aS,ao,aB]
theorem zr {Γ:cj} {env:Env} {s:ak} {a b c:Nat} {t T:TypeId} {i:bL} {cs:List af} {v u:af} (he:env.get? a=some (.ptr b 0)) (aS:Γ.get? t=some i) (ao:s b=some (.box T cs)) (aB:hD i cs 0=some v) (aF:env.get? c=some u) :
  nt Γ env s [.cell a t,.tmp c]=some (.cg [v,u]):=by simp [nt,vb,y4,he,aS,ao,aB,aF]
theorem aa.ik {P:Program} {N:Nat} {ops:Array Oper} {Q:bX→Env→ak→Prop} {env:Env} {s:ak} {l:List Oper} {L:a6} (I:Ok s L) (e:TypeId) (sz n:Nat) (h:Ok s ((.nil,.row e sz n)::L)→aa P N ops l Q env (aQ s ((.nil,.row e sz n)::L))):aa P N ops l Q env (aQ s L):=h ⟨trivial,I⟩
theorem ae.ik {P:Program} {N:Nat} {Q:bX→Env→ak→Prop} {env:Env} {s:ak} {c:Code} {L:a6} (I:Ok s L) (e:TypeId) (sz n:Nat) (h:Ok s ((.nil,.row e sz n)::L)→ae P N c Q env (aQ s ((.nil,.row e sz n)::L))):ae P N c Q env (aQ s L):=h ⟨trivial,I⟩
def J3 (P:Program) {α:Type} (cb:α→af) (l:Nat) (Go:List α→a6→Prop) (fm:a6→Prop) (fr:af→a6→Prop):Prop:=
 ∀ x rem K,Go (x::rem) K→dh P (ld l) [cb x] K (fun o aN=>(o = .ret (.bool true)∧Go rem aN)∨(o = .ret (.bool false)∧fm aN)∨∃ v,o = .panic v∧fr v aN)
def xl (P:Program) (f:FuncId) (first cap:List af) (mu:a6) {α:Type} (cb:α→af) (xs:List α):Prop:=
 ∀ (l:Nat) (Go:List α→a6→Prop) (fm:a6→Prop) (fr:af→a6→Prop),J3 P cb l Go fm fr→∀ K,Go xs K →
  bz P f (first++([ld l]++cap)) (mu++K) (fun o aN=>(o = .ret (.cg [])∧(Go [] aN∨fm aN))∨∃ v,o = .panic v∧fr v aN)
theorem aH.ez:∀ L:a6,aH L L []
 | [] => .nil
 | (_,_)::L => .cons .here (aH.ez L)
theorem aH.there {L K R:a6} {e:bN×ds} (h:aH L K R):aH (e::L) K (e::R):=by
 induction h with
 | nil=>exact .nil
 | cons h t aX=>exact .cons (.there h) aX
theorem aH.app {L K R aN dk:a6} (h:aH L K R) (eT:aH R aN dk):aH L (K++aN) dk:=by
 induction h with
 | nil=>exact eT
 | cons h t aX=>exact .cons h (aX eT)
theorem bl.app {L R:a6} {k:bN} {o:ds}:∀ (K:a6),bl L k o R→bl (K++L) k o (K++R)
 | [],h=>h
 | _::K,h => .there (bl.app K h)
theorem bl.Sq {L R:a6} {k:bN} {o:ds} (h:bl L k o R) (M:a6):bl (L++M) k o (R++M):=by
 induction h with
 | here=>exact .here
 | there h aX=>exact .there aX
theorem aH.jd {L K dk R:a6} (h:aH L K dk):aH (L++R) K (dk++R):=by
 induction h with
 | nil=>exact .nil
 | cons h t aX=>exact .cons (h.Sq _) aX
def At (s:ak) (acv:a6→Prop) (ai:ak):Prop:=∃ L K R,ai=aQ s L∧Ok s L∧aH L K R∧acv K
theorem At.mk {s:ak} {acv:a6→Prop} {L R:a6} (K:a6) (I:Ok s L) (ao:aH L K R) (aw:acv K):At s acv (aQ s L):=⟨L,K,R,rfl,I,ao,aw⟩
theorem hG.less {P:Program} {fv:af} {args:List af} {s:ak} {R dk:eo→ak→Prop} (h:hG P fv args s R) (aC:∀ o ai,R o ai→∃ eA,ak.Sub eA ai∧dk o eA):hG P fv args s dk:=by
 intro w p v vs b5 ar eB;refine (h w p v vs b5 ar eB).mono ?_;rintro e w' ⟨o,ai,bg,U,ad,al,bd,bB⟩;obtain ⟨eA,cv,db⟩:=aC o ai ad;exact ⟨o,eA,bg,U,db,al,bd.sub cv,bB.sub cv⟩
section
variable {P:Program} {N:Nat} {Q:bX→Env→ak→Prop} {env:Env} {s:ak} {L R:a6}
theorem ae.Fk {α:Type} {cb:α→af} {xs:List α} {t:Tmp} {g:Operand} {gU body:Code} {f:FuncId} {first cap:List af} {mu:a6} (I:Ok s L) (au:aJ env g=some (.func f first cap)) (aY:t<N)
  (nx:xl P f first cap mu cb xs) (ao:aH L mu R) (acv:List α→a6→Prop) (J:Code→a6→Prop) (sC:af→a6→Prop) (bo:acv xs R)
  (r2:∀ s x rem K,acv (x::rem) K→Ok s K→ae P N gU (bX.andThen (ae P N body (BV (At s (acv rem)) (fun j=>At s (J j)) (fun v=>At s (sC v)))) (fun _ _ _=>False)) ((t,cb x)::env) (aQ s K))
  (aA:∀ K,acv [] K→Ok s K→Q .normal env (aQ s K))
  (aO:∀ j K,J j K→Ok s K→ae P N j Q env (aQ s K))
  (ab:∀ v K,sC v K→Ok s K→Q (.panic v) env (aQ s K)):ae P N (.rangeFunc g #[t] gU body) Q env (aQ s L):=by
 refine ae.JC au (by intro bI c4;simp at c4;subst c4;exact aY) fun l r aB Fl=>?_
 have Fm:Ok s ((.own l,.loop r env)::L):=⟨aB,I⟩;have om:J3 P cb l (fun rem K=>∃ aN,K=(.own l,.loop r env)::aN∧acv rem aN) (fun K=>∃ j aN,K=(.own l,.loop (p2 r j) env)::aN∧J j aN) (fun v K=>∃ aN,K=(.own l,.loop (busy r) env)::aN∧sC v aN):=by
  rintro x rem _ ⟨K,rfl,aw⟩ ai zs;refine (Fl [cb x] _ (At ai (acv rem)) (fun j=>At ai (J j)) (fun v=>At ai (sC v)) (ak.fT _ _ _) C ?_).less ?_
  ·have:=ak.yS (aQ ai K) l (.loop r env) zs.1
   show ae P N gU _ _ (((aQ ai K).set l (.loop r env)).del l);rw [this];exact r2 ai x rem K aw zs.2
  ·have key:∀ {L K R:a6} {o:ds},aQ ai L l=none→Ok ai L→aH L K R→ak.Sub (aQ ai ((.own l,o)::K)) ((aQ ai L).set l o)∧Ok ai ((.own l,o)::K):=by
    intro L K R o U ad al;exact (aH.cons bl.here al).sub (L:=(.own l,o)::L) ⟨U,ad⟩
   rintro o eA (⟨rfl,dw,U,rfl,L,aN,R,rfl,ad,bd,al⟩|⟨rfl,j,dw,U,rfl,L,aN,R,rfl,ad,bd,al⟩|⟨v,dw,rfl,U,rfl,L,aN,R,rfl,ad,bd,al⟩)
   ·obtain ⟨cv,db⟩:=key U ad bd (o := .loop r env)
    exact ⟨_,cv,(.own l,.loop r env)::aN,rfl,db,.inl ⟨rfl,aN,rfl,al⟩⟩
   ·obtain ⟨cv,db⟩:=key U ad bd (o := .loop (p2 r j) env)
    exact ⟨_,cv,(.own l,.loop (p2 r j) env)::aN,rfl,db,.inr (.inl ⟨rfl,j,aN,rfl,al⟩)⟩
   ·obtain ⟨cv,db⟩:=key U ad bd (o := .loop (busy r) env)
    exact ⟨_,cv,(.own l,.loop (busy r) env)::aN,rfl,db,.inr (.inr ⟨v,rfl,aN,rfl,al⟩)⟩
 have cS:=(nx l _ _ _ om _ ⟨R,rfl,bo⟩).at Fm ((ao.there (e:=(.own l,.loop r env))).app (aH.ez _));refine cS.mono ?_;rintro o eA ⟨M,rfl,iA,aN,rfl,h⟩;rw [d8] at iA ⊢;rcases h with ⟨rfl,⟨lS,rfl,h⟩|⟨j,lS,rfl,h⟩⟩|⟨v,rfl,lS,rfl,h⟩
 ·exact .inl ⟨aQ s lS,iA.1,rfl,aA lS h iA.2⟩
 ·exact .inr ⟨j,aQ s lS,iA.1,rfl,aO j lS h iA.2⟩
 ·exact ⟨aQ s lS,_,iA.1,rfl,ab v lS h iA.2⟩
end
section
variable {P:Program} {Γ:cj} {N:Nat} {l:List Oper} {Q:bX→Env→ak→Prop} {env:Env} {s:ak} {m d:Nat} {o:Oper} {L K R:a6} {ace:eo→a6→Prop}
theorem ba.bZ (i:Nat) {f:FuncId} {fC:Array Operand} {c0:Array TypeId} {xs:List af} (aC:eD l.toArray m (idxs 0 l)=[i]) (ah:l.toArray[i]? = some o) (av:o.dst=some d) (aY:i9 d N=true)
  (au:cY l env o) (bV:o.op = .call { callee := .value (.func f),args:=fC,argTypes:=c0 }) (a8:fy (bU l env o) fC.toList=some xs) (h:bz P f xs K ace) (I:Ok s L) (ao:aH L K R)
  (aD:∀ x aN,ace (.ret x) aN→Ok s (aN++R)→ba P Γ N l.toArray Q (bQ (m|||2^i)) ((d,x)::env) (aQ s (aN++R))) (ab:∀ x aN,ace (.panic x) aN→Ok s (aN++R)→Q (.panic x) [] (aQ s (aN++R))):ba P Γ N l.toArray Q (bQ m) env (aQ s L):=
 bh.bZ aC ah av aY au bV a8 h I ao (fun _ _ _ _ => .inl trivial) aD ab
theorem bh.Sr {J:ak→Prop} (i:Nat) (aP:bM P Γ) (cZ:J s) {t:TypeId} {x:Operand} {dM:bL} {b off:Nat} {v:af} (aC:h6 l.toArray m i=true) (ah:l.toArray[i]? = some o) (av:o.dst=some d) (aY:i9 d N=true)
  (au:cY l env o) (bV:o.op = .load t x) (aK:Γ.get? t=some dM) (ab:aJ (bU l env o) x=some (.ptr b off)) (ao:∀ s,J s→∃ T cs,s b=some (.box T cs)∧hD dM cs off=some v)
  (h:bh J P Γ N l.toArray Q (bQ (m|||2^i)) ((d,v)::env) s):bh J P Γ N l.toArray Q (bQ m) env s:=
 bh.p5 cZ aC ah av aY au (fun s gY=>by obtain ⟨T,cs,U,ad⟩:=ao s gY;exact aW.tr aP bV aK ab U ad) h
end
section
variable {P:Program} {N:Nat} {Q:bX→Env→ak→Prop} {env:Env} {s:ak} {L:a6}
def Cf {σ:Type} (s:ak) (E:σ→Env) (K:σ→a6) (acv:σ→Prop) (Q:bX→Env→ak→Prop):bX→Env→ak→Prop
 | .normal,eN,ai=>∃ y nw dk,acv y∧Env.Sub (E y) eN∧ai=aQ s nw∧Ok s nw∧aH nw (K y) dk
 | e,eN,ai=>Q e eN ai
theorem Cf.mk {σ:Type} {E:σ→Env} {K:σ→a6} {acv:σ→Prop} (y:σ) {dk:a6} (I:Ok s L) (aw:acv y) (eV:Env.Sub (E y) env) (b6:aH L (K y) dk):Cf s E K acv Q .normal env (aQ s L):=⟨y,L,dk,aw,eV,rfl,I,b6⟩
theorem ae.Ss {σ:Type} {x y:Code} {n3:bX→Env→ak→Prop} (E:σ→Env) (K:σ→a6) (acv:σ→Prop) (vq:ae P N x (Cf s E K acv n3) env (aQ s L)) (vr:∀ z,acv z→Ok s (K z)→ae P N y Q (E z) (aQ s (K z))) :
  ae P N x (bX.andThen (ae P N y Q) n3) env (aQ s L):=by
 refine vq.mono ?_;intro e eN ai h;cases e with
 | normal=>
  obtain ⟨z,nw,dk,g1,g2,rfl,g3,g4⟩:=h;obtain ⟨cv,db⟩:=g4.sub g3;exact ae.sub _ g2 (ae.drop _ cv (vr z g1 db))
 | exit id=>exact h
 | ret=>exact h
 | panic v=>exact h
end
section
variable {P:Program} {N:Nat} {ops:Array Oper} {Q:bX→Env→ak→Prop} {env:Env} {s:ak} {l:List Oper} {o:Oper} {d:Nat}
theorem aW.rem {t yt:TypeId} {x y:Operand} {k:IntKind} {a b r:Int} (ah:o.op = .binOp .rem t x y yt) (ab:aJ env x=some (.int k a)) (ax:aJ env y=some (.int k b)) (an:b≠0) (aC:a.tmod b=r) :
  aW P N o env s (fun x ai=>x = .int k r∧ai=s) (fun _ _=>False):=by
 refine aW.mO iN fun ro B c3 w p aI=>?_
 have U:=aI.aJ ab;have ad:=aI.aJ ax;generalize ei:c3.eval x=dG at U;generalize e9:c3.eval y=fJ at ad;cases U;cases ad;refine tt (v := .int k r) ah ?_ ?_ (.int _ _)
 ·rw [ei,e9];unfold eqGuard;simp
 ·rw [ei,e9]
  simp only [binOp,ne_eq,not_true_eq_false,af5,Op.intDiv,an,aC];rfl
theorem aa.rem {t yt:TypeId} {x y:Operand} {k:IntKind} {a b r:Int} (au:guardOf ops env o=some true) (av:o.dst=some d) (aY:i9 d N=true) (ah:o.op = .binOp .rem t x y yt) (ab:aJ env x=some (.int k a)) (ax:aJ env y=some (.int k b)) (an:b≠0) (aC:a.tmod b=r)
  (h:aa P N ops l Q ((d,.int k r)::env) s):aa P N ops (o::l) Q env s:=
 aa.op au av aY (aW.rem ah ab ax an aC) (fun x ai ⟨U,ad⟩=>by subst U;subst ad;exact h) (fun _ _ h=>h.elim)
end
theorem Fo {P:Program} {cs:List Frame} (T:List Deferred):∀ (b4:List Nat) (gV:Frame) (w:World),gV.mode ≠ .run→gV.defers=marksOf b4++T →
  (∀ d∈b4,w.heap[d]? = some (.deferred (some [])))→b4.Nodup→Steps P (lone gV cs w) (lone { gV with defers:=T } cs (hd w b4)):=by
 intro b4
 induction b4 with
 | nil=>
  intro gV w _ av _ _;have:({ gV with defers:=T }:Frame)=gV:=by cases gV;simp_all [marksOf]
  rw [this];exact .refl P _
 | cons d b4 aX=>
  intro gV w hm av an aA;have mL:w.heap[d]? = some (.deferred (some [])):=an d (i5 ..);have aK:(Instr.takeDeferred d).run P w = .ok [] { w with heap:=w.heap.setIfInBounds d (.deferred none) }:=by
   unfold Instr.takeDeferred;simp only [z2,getObj,setObj,Sem.run,mL,Result.andThen];rfl
  have U:step P (lone gV cs w) = .next (lone { gV with defers:=marksOf b4++T } cs { w with heap:=w.heap.setIfInBounds d (.deferred none) }):=by
   refine step_lone_go ?_;cases uL:gV.mode with
   | run=>exact absurd uL hm
   | returning=>simp [stepG,unwind,uL,av,marksOf,as0,aK]
   | panicking chain=>simp [stepG,unwind,uL,av,marksOf,as0,aK]
  have e2:=List.nodup_cons.1 aA;refine .head U (aX { gV with defers:=marksOf b4++T } _ hm C ?_ e2.2);intro cX cc;have cp:d≠cX:=fun e=>e2.1 (e ▸ cc)
  simp only [Array.getElem?_setIfInBounds,cp,af5];exact an cX (g7 _ cc)
def St (P:Program) (fn:Func) (R:Ending→World→Prop) (T:List Deferred):gM→Act→World→Prop
 | .normal,a,w | .ret,a,w=>∃ b4,a.defers=marksOf b4++T∧b4.Nodup∧(∀ d∈b4,w.heap[d]? = some (.deferred (some [])))∧Leaves P fn a.tmps R T .returning (hd w b4)
 | .panic dr,a,w=>∃ b4,a.defers=marksOf b4++T∧b4.Nodup∧(∀ d∈b4,w.heap[d]? = some (.deferred (some [])))∧Leaves P fn a.tmps R T (.panicking dr) (hd w b4)
 | .exit _,_,_=>False
theorem J4 {P:Program} {f:FuncId} {fn:Func} {Cg fg rest:Code} {args:Array Value} {w:World} {R:Ending→World→Prop} {T:List Deferred}
  (a1:P.funcs[f]? = some fn) (an:fn.body=some (.seq Cg (.seq fg rest)))
  (h:Cg.wp P (fun e a w=>e = .normal∧fg.wp P (fun e a w=>e = .normal∧∀ b:Frame,b.roundOf=none→b.fn=f→jw P b rest (St P fn R T) a w) a w) { tmps:=args++ai7 (fn.ntmps-args.size) undef,defers:=[] } w) :
  Calls P f args w R:=by
 intro cs
 let b:Frame:={ (default:Frame) with fn:=f,kind := .normal,roundOf:=none }
 have r1:Frame.enter P f args .normal =
   b.at { tmps:=args++ai7 (fn.ntmps-args.size) undef,defers:=[] } [.code (.seq Cg (.seq fg rest))]:=by
  simp [Frame.enter,Frame.at,a1,an,b]
 obtain ⟨jo,a0,lo,⟨rfl,U⟩,Su⟩:=h b [.code (.seq fg rest)] cs;obtain ⟨b7,dm,eg,⟨rfl,ad⟩,s1⟩:=U b [.code rest] cs;have Sv:Steps P (lone (b.at { tmps:=args++ai7 (fn.ntmps-args.size) undef,defers:=[] } [.code Cg,.code (.seq fg rest)]) cs w) (lone (b.at a0 [.code (.seq fg rest)]) cs lo):=Su;have Sw:Steps P (lone (b.at a0 [.code fg,.code rest]) cs lo) (lone (b.at dm [.code rest]) cs eg):=s1;have oW:Steps P (lone (Frame.enter P f args .normal) cs w) (lone (b.atR dm [.code rest]) cs eg):=by
  rw [r1,Frame.atR_of_none C];exact .head step_seq (Sv.trans (.head step_seq Sw))
 obtain ⟨e,c3,w',bp,fI⟩:=ad b rfl rfl [] cs;cases e with
 | normal=>
  obtain ⟨b4,av,aA,kj,bY⟩:=bp;have ao:=Steps.trans (Steps.trans oW fI) (Steps.trans (.one (stepR_end C)) (Fo T b4 { b.atR c3 [] with mode := .returning } w' bc av kj aA));obtain ⟨e',lH,zt,dQ,gY,eU,aB⟩:=leaves_steps T .returning _ { b.atR c3 [] with mode := .returning,defers:=T } cs rfl rfl rfl a1 rfl bY;exact ⟨e',lH,zt,dQ,Comes.of_steps ao gY,eU,aB⟩
 | ret=>
  obtain ⟨b4,av,aA,kj,bY⟩:=bp;obtain ⟨k₁,ao⟩:=fI;have ao:=Steps.trans (Steps.trans oW ao) (Steps.trans (.one (stepR_ret C)) (Fo T b4 { b.atR c3 (.code .ret::k₁) with mode := .returning } w' bc av kj aA));obtain ⟨e',lH,zt,dQ,gY,eU,aB⟩:=leaves_steps T .returning _ { b.atR c3 (.code .ret::k₁) with mode := .returning,defers:=T } cs rfl rfl rfl a1 rfl bY;exact ⟨e',lH,zt,dQ,Comes.of_steps ao gY,eU,aB⟩
 | panic dr=>
  obtain ⟨b4,av,aA,kj,bY⟩:=bp;obtain ⟨k₁,ao⟩:=fI;have ao:=Steps.trans (Steps.trans oW ao) (Fo T b4 { b.atR c3 k₁ with mode := .panicking dr } w' bc av kj aA);obtain ⟨e',lH,zt,dQ,gY,eU,aB⟩:=leaves_steps T (.panicking dr) _ { b.atR c3 k₁ with mode := .panicking dr,defers:=T } cs rfl rfl rfl a1 rfl bY;exact ⟨e',lH,zt,dQ,Comes.of_steps ao gY,eU,aB⟩
 | exit id=>exact bp.elim
section
variable {P:Program} {Γ:cj} {N:Nat} {l:List Oper} {Q:bX→Env→ak→Prop} {env:Env} {s:ak} {m d:Nat} {o:Oper} {L K R:a6} {ace:eo→a6→Prop}
theorem ba.jc (i:Nat) (aP:bM P Γ) (I:Ok s L) {t dH eW:TypeId} {x y:Operand} {ok:Bool} {it gp aG:bL} {mb:Nat} {es:List (af×af)} {k z:af} {r:Option af} (aC:eD l.toArray m (idxs 0 l)=[i]) (ah:l.toArray[i]? = some o) (av:o.dst=some d) (aY:i9 d N=true)
  (au:cY l env o) (bV:o.op = .lookup t x y ok) (aK:Γ.get? t=some it) (br:it.bE = .map dH eW) (iX:Γ.get? dH=some gp) (bH:Γ.get? eW=some aG) (ab:aJ (bU l env o) x=some (.map mb)) (ax:aJ (bU l env o) y=some k) (ao:bl L (.own mb) (.map es) R)
  (a1:jO gp.bE k=true) (iW:iJ es k=some r) (bP:ho aG.zero=some z) (h:ba P Γ N l.toArray Q (bQ (m|||2^i)) ((d,la ok z r)::env) (aQ s L)):ba P Γ N l.toArray Q (bQ m) env (aQ s L):=
 ba.one aC ah av aY au (aW.jc aP I bV aK br iX bH ab ax ao a1 iW bP (X:=fun _ _=>False)) (fun x ai ⟨U,ad⟩=>by subst U;subst ad;exact h) (fun _ _ h=>h.elim)
theorem ba.gr (i:Nat) {g:Operand} {fv:af} {fC:Array Operand} {c0:Array TypeId} {xs:List af} (aC:eD l.toArray m (idxs 0 l)=[i]) (ah:l.toArray[i]? = some o) (av:o.dst=some d) (aY:i9 d N=true)
  (au:cY l env o) (bV:o.op = .call { callee := .value g,args:=fC,argTypes:=c0 }) (ar:aJ (bU l env o) g=some fv) (a8:fy (bU l env o) fC.toList=some xs) (h:dh P fv xs K ace) (I:Ok s L) (ao:aH L K R)
  (aD:∀ x aN,ace (.ret x) aN→Ok s (aN++R)→ba P Γ N l.toArray Q (bQ (m|||2^i)) ((d,x)::env) (aQ s (aN++R))) (ab:∀ x aN,ace (.panic x) aN→Ok s (aN++R)→Q (.panic x) [] (aQ s (aN++R))):ba P Γ N l.toArray Q (bQ m) env (aQ s L):=
 bh.gr aC ah av aY au bV ar a8 h I ao (fun _ _ _ _ => .inl trivial) aD ab
end
section
variable {P:Program} {N:Nat} {ops:Array Oper} {Q:bX→Env→ak→Prop} {env:Env} {s:ak} {l:List Oper} {L R:a6}
theorem fp.tF {is:List Nat} (t b:Nat) {n cap:Nat} {T:TypeId} {cs:List af} (aK:env.get? t=some (ea b n cap)) (ao:s b=some (.box T cs)) (cu:cs.length=cap) (aA:n≤cap) (hm:n≤9223372036854775807) (ih:(cs.take n).all e4=true)
  (h:fp P N ops is Q ((t,.ay 1 (cs.take n) .aZ)::env) (s.del b)):fp P N ops is Q env s:=by
 intro ro B a w p aI;obtain ⟨bg,hE,hle,aD⟩:=aI.tF aK ao cu aA hm ih;exact fp.after hle aD h hE
theorem aa.tF (I:Ok s L) (t b:Nat) {n cap:Nat} {T:TypeId} {cs:List af} (aK:env.get? t=some (ea b n cap)) (ao:bl L (.own b) (.box T cs) R) (cu:cs.length=cap) (aA:n≤cap) (hm:n≤9223372036854775807) (ih:(cs.take n).all e4=true)
  (h:Ok s R→aa P N ops l Q ((t,.ay 1 (cs.take n) .aZ)::env) (aQ s R)):aa P N ops l Q env (aQ s L):=by
 obtain ⟨U,ad⟩:=ao.del I;intro k aD;refine fp.tF t b aK (ao.get I) cu aA hm ih ?_;rw [U];exact h ad k aD
end
section
variable {P:Program} {Γ:cj} {N:Nat} {ops:Array Oper} {Q:bX→Env→ak→Prop} {env:Env} {s:ak} {l:List Oper} {o:Oper} {d:Nat} {L R:a6}
theorem aW.gi (aP:bM P Γ) {t e:TypeId} {x y:Operand} {it aG:bL} {b n cap:Nat} {k:IntKind} {i:Int} {j:Nat} (ah:o.op = .indexAddr t x y) (aK:Γ.get? t=some it) (br:it.bE = .ay e) (bH:Γ.get? e=some aG)
  (ab:aJ env x=some (ea b n cap)) (ax:aJ env y=some (.int k i)) (eF:i=(j:Int)) (aO:j<n):aW P N o env s (fun x ai=>x = .ptr b (j*aG.size)∧ai=s) (fun _ _=>False):=by
 refine aW.mO iN fun ro B a w p aI=>?_
 obtain ⟨info,d,U,ad,al,-⟩:=aP.parts aK;obtain ⟨jx,jZ,cv,db,e8,ew,-⟩:=aP.parts bH;have av:d = .slice e:=by rw [br] at al;cases d<;>simp [eh] at al;rw [al]
 subst av;have aC:=aI.aJ ab;have iM:=aI.aJ ax;generalize ei:a.eval x=dG at aC;generalize e9:a.eval y=fJ at iM;cases iM;subst eF;cases aC;refine .same (val := .pointer (some ⟨b,j*aG.size,none⟩)) ?_ (.ptr b _);unfold execOp;rw [ah];simp only [ei,e9];refine gC ?_;have az:(0:Int)≤(j:Int)∧(j:Int)<(n:Int):=by omega
 simp [Instr.indexAt,asIntOf,run_underlying ad,az.2,sizeOf,typeInfo,cv,ew,kP];intro a';omega
theorem Fp {w:World} {p:bO} {sz:Nat}:∀ {xss:List (List af)} {us:List Value},bD w p us xss.flatten→(∀ cs∈xss,cs.length=sz)→∃ vs,bD w p vs (xss.map af.agg)∧flat vs=us∧∀ v∈vs,v.cells.size=sz
  | [],us,h,_=>by cases h;exact ⟨[],.nil,rfl,by simp⟩
  | cs::r,us,h,aB=>by
    rw [List.flatten_cons] at h;have cu:=aB cs i5;have U:=h.take cs.length;have ad:=h.drop cs.length;rw [List.take_left] at U;rw [List.drop_left] at ad;obtain ⟨vs,g1,g2,g3⟩:=Fp ad fun x ab=>aB x (g7 _ ab)
    refine ⟨.agg (us.take cs.length).toArray::vs,.cons _ _ _ _ (.agg _ _ U) g1,?_,fun v ar=>?_⟩
    · have:flat (Value.agg (us.take cs.length).toArray::vs)=us.take cs.length++flat vs:=by simp [flat,Value.cells]
      rw [this,g2,ag4]
    · rcases ad4.1 ar with rfl|ar
      · have:=U.length
        simp only [Value.cells,ak8];rw [this,cu]
      · exact g3 v ar
theorem bh.gi {J:ak→Prop} (i:Nat) (aP:bM P Γ) (cZ:J s) {m:Nat} {t e:TypeId} {x y:Operand} {it aG:bL} {b n cap:Nat} {k:IntKind} {z:Int} {j:Nat} (aC:h6 l.toArray m i=true) (aS:l.toArray[i]? = some o) (av:o.dst=some d) (aY:i9 d N=true)
  (au:cY l env o) (ah:o.op = .indexAddr t x y) (aK:Γ.get? t=some it) (br:it.bE = .ay e) (bH:Γ.get? e=some aG)
  (ab:aJ (bU l env o) x=some (ea b n cap)) (ax:aJ (bU l env o) y=some (.int k z)) (eF:z=(j:Int)) (aO:j<n)
  (h:bh J P Γ N l.toArray Q (bQ (m|||2^i)) ((d,.ptr b (j*aG.size))::env) s):bh J P Γ N l.toArray Q (bQ m) env s:=
 bh.p5 cZ aC aS av aY au (fun _ _=>aW.gi aP ah aK br bH ab ax eF aO) h
end
section
variable {P:Program} {Γ:cj} {N:Nat} {ops:Array Oper} {Q:bX→Env→ak→Prop} {env:Env} {s:ak} {l:List Oper} {o:Oper} {d:Nat}
theorem aW.sD (aP:bM P Γ) {t e:TypeId} {x:Operand} {it:bL} {b n cap:Nat} (ah:o.op = .call { callee := .builtin .len,args := #[x],argTypes := #[t] }) (aK:Γ.get? t=some it) (br:it.bE = .ay e) (ab:aJ env x=some (ea b n cap)) :
  aW P N o env s (fun x ai=>x = .int .i64 n∧ai=s) (fun _ _=>False):=by
 refine aW.mO iN fun ro B a w p aI=>?_
 obtain ⟨info,d,U,ad,al,-⟩:=aP.parts aK;have av:d = .slice e:=by rw [br] at al;cases d<;>simp [eh] at al;rw [al]
 subst av;have aC:=aI.aJ ab;generalize ar:a.eval x=dG at aC;cases aC;refine .same (val := .int .i64 n) ?_ (.int _ _);unfold execOp;rw [ah];simp [Go.resolve,Go.invoke,Go.builtin,z2,ac4,g6,ar,Builtin.len_,run_underlying ad,goInt]
theorem aa.sD (aP:bM P Γ) {t e:TypeId} {x:Operand} {it:bL} {b n cap:Nat} (au:guardOf ops env o=some true) (av:o.dst=some d) (aY:i9 d N=true) (ah:o.op = .call { callee := .builtin .len,args := #[x],argTypes := #[t] }) (aK:Γ.get? t=some it) (br:it.bE = .ay e) (ab:aJ env x=some (ea b n cap))
  (h:aa P N ops l Q ((d,.int .i64 n)::env) s):aa P N ops (o::l) Q env s:=
 aa.op au av aY (aW.sD aP ah aK br ab) (fun x ai ⟨U,ad⟩=>by subst U;subst ad;exact h) (fun _ _ h=>h.elim)
theorem aW.zu (aP:bM P Γ) {t e:TypeId} {x y:Operand} {it aG:bL} {b n cap k:Nat} {p8:IntKind} (ah:o.op = .slice t x none (some y) none) (aK:Γ.get? t=some it) (br:it.bE = .ay e) (bH:Γ.get? e=some aG) (ab:aJ env x=some (ea b n cap)) (ax:aJ env y=some (.int p8 (k:Int))) (aD:k≤cap) :
  aW P N o env s (fun x ai=>x=ea b k cap∧ai=s) (fun _ _=>False):=by
 refine aW.mO iN fun ro B a w p aI=>?_
 obtain ⟨info,d,U,ad,al,-⟩:=aP.parts aK;obtain ⟨jx,jZ,cv,db,e8,ew,-⟩:=aP.parts bH;have av:d = .slice e:=by rw [br] at al;cases d<;>simp [eh] at al;rw [al]
 subst av;have aC:=aI.aJ ab;have fe:=aI.aJ ax;generalize ei:a.eval x=dG at aC;generalize e9:a.eval y=fJ at fe;cases aC;cases fe;refine .same (val := .slice (some ⟨b,0,none⟩) k cap) ?_ (.hl _);unfold execOp;rw [ah];simp only [ei,Option.map_none,am3,e9];refine gC ?_;have aA:(0:Int)≤(k:Int):=by omega
 have aF:(k:Int)≤(cap:Int):=by omega
 have an:(Instr.sliceBounds true n cap none (some (.int p8 (k:Int))) none).run P w = .ok (0,k,cap) w:=by
  simp [Instr.sliceBounds,run_sliceBound,aA,aF]
 simp only [Instr.sliceAt,Instr.slice,z2,run_underlying ad,g6,an,sizeOf,typeInfo,run_program,cv,ac4,ew,aA0,Nat.zero_mul];by_cases bo:cap=0
 ·simp [bo]
 ·simp [bo,kP]
theorem aa.zu (aP:bM P Γ) {t e:TypeId} {x y:Operand} {it aG:bL} {b n cap:Nat} (k:Nat) {p8:IntKind} (au:guardOf ops env o=some true) (av:o.dst=some d) (aY:i9 d N=true) (ah:o.op = .slice t x none (some y) none) (aK:Γ.get? t=some it) (br:it.bE = .ay e) (bH:Γ.get? e=some aG)
  (ab:aJ env x=some (ea b n cap)) (ax:aJ env y=some (.int p8 (k:Int))) (aD:k≤cap) (h:aa P N ops l Q ((d,ea b k cap)::env) s):aa P N ops (o::l) Q env s:=
 aa.op au av aY (aW.zu aP ah aK br bH ab ax aD) (fun x ai ⟨U,ad⟩=>by subst U;subst ad;exact h) (fun _ _ h=>h.elim)
theorem aa.gi (aP:bM P Γ) {t e:TypeId} {x y:Operand} {it aG:bL} {b n cap:Nat} {k:IntKind} {i:Int} (j:Nat) (au:guardOf ops env o=some true) (av:o.dst=some d) (aY:i9 d N=true) (ah:o.op = .indexAddr t x y) (aK:Γ.get? t=some it) (br:it.bE = .ay e) (bH:Γ.get? e=some aG)
  (ab:aJ env x=some (ea b n cap)) (ax:aJ env y=some (.int k i)) (eF:i=(j:Int)) (aO:j<n) (h:aa P N ops l Q ((d,.ptr b (j*aG.size))::env) s):aa P N ops (o::l) Q env s:=
 aa.op au av aY (aW.gi aP ah aK br bH ab ax eF aO) (fun x ai ⟨U,ad⟩=>by subst U;subst ad;exact h) (fun _ _ h=>h.elim)
end
theorem Sx {m n:Nat} (hm:m<2^64) (aA:n<2^64):m|||n<2^64:=ag' hm aA
theorem J5 {m n:Nat} (hm:m<2^64):m &&& n<2^64:=ah9 as7 hm
def kz (m n:Nat):Nat:=m &&& (18446744073709551615 ^^^ n)
theorem q7 (m:Nat):ah5 64 (m:Int)=ax4 64 m:=by
 apply BitVec.eq_of_toNat_eq;rw [BitVec.toNat_ofInt,ai4];omega
theorem wrap64 {m:Nat} (h:m<2^64):aa' .u64 (m:Int)=(m:Int):=by
 unfold aa';simp [ak0,av8];omega
section
variable {P:Program} {N:Nat} {ops:Array Oper} {Q:bX→Env→ak→Prop} {env:Env} {s:ak} {l:List Oper} {o:Oper} {d:Nat}
theorem aW.shl {t yt:TypeId} {x y:Operand} {k k':IntKind} {a b r:Int} (ah:o.op = .binOp .shl t x y yt) (ab:aJ env x=some (.int k a)) (ax:aJ env y=some (.int k' b)) (an:0≤b) (aC:k.wrap (a*2^(min b.toNat k.bits))=r) :
  aW P N o env s (fun x ai=>x = .int k r∧ai=s) (fun _ _=>False):=by
 refine aW.mO iN fun ro B c3 w p aI=>?_
 have U:=aI.aJ ab;have ad:=aI.aJ ax;generalize ei:c3.eval x=dG at U;generalize e9:c3.eval y=fJ at ad;cases U;cases ad;refine tt (v := .int k r) ah ?_ ?_ (.int _ _)
 ·rw [ei,e9];unfold eqGuard;simp
 ·rw [ei,e9]
  have dF:¬ b<0:=by omega
  simp only [binOp,Op.shift,dF,af5,aC];rfl
theorem aW.shr {t yt:TypeId} {x y:Operand} {k k':IntKind} {a b r:Int} (ah:o.op = .binOp .shr t x y yt) (ab:aJ env x=some (.int k a)) (ax:aJ env y=some (.int k' b)) (an:0≤b) (aC:a.fdiv (2^(min b.toNat k.bits))=r) :
  aW P N o env s (fun x ai=>x = .int k r∧ai=s) (fun _ _=>False):=by
 refine aW.mO iN fun ro B c3 w p aI=>?_
 have U:=aI.aJ ab;have ad:=aI.aJ ax;generalize ei:c3.eval x=dG at U;generalize e9:c3.eval y=fJ at ad;cases U;cases ad;refine tt (v := .int k r) ah ?_ ?_ (.int _ _)
 ·rw [ei,e9];unfold eqGuard;simp
 ·rw [ei,e9]
  have dF:¬ b<0:=by omega
  simp only [binOp,Op.shift,dF,af5,aC];rfl
def bitsOf (op:BinOp) (k:IntKind) (a b:Int):Option Int:=match op with
 | .and=>some (k.wrap (ah5 k.bits a &&& ah5 k.bits b).toNat)
 | .or=>some (k.wrap (ah5 k.bits a|||ah5 k.bits b).toNat)
 | .xor=>some (k.wrap (ah5 k.bits a ^^^ ah5 k.bits b).toNat)
 | .andNot=>some (k.wrap (ah5 k.bits a &&& ~~~(ah5 k.bits b)).toNat)
 | _=>none
theorem aW.bits {op:BinOp} {t yt:TypeId} {x y:Operand} {k:IntKind} {a b r:Int} (ah:o.op = .binOp op t x y yt) (ab:aJ env x=some (.int k a)) (ax:aJ env y=some (.int k b)) (aC:bitsOf op k a b=some r) :
  aW P N o env s (fun x ai=>x = .int k r∧ai=s) (fun _ _=>False):=by
 refine aW.mO iN fun ro B c3 w p aI=>?_
 have U:=aI.aJ ab;have ad:=aI.aJ ax;generalize ei:c3.eval x=dG at U;generalize e9:c3.eval y=fJ at ad;cases U;cases ad;refine tt (v := .int k r) ah ?_ ?_ (.int _ _)
 ·rw [ei,e9];unfold eqGuard;cases op<;>first|rfl|(cases aC;done)
 ·rw [ei,e9]
  cases op<;>simp only [bitsOf] at aC<;>first|(cases aC;done)|(cases aC;simp only [binOp,ne_eq,not_true_eq_false,af5,Op.intBits];rfl)
theorem aa.shl {t yt:TypeId} {x y:Operand} {k k':IntKind} {a b:Int} (r:Int) (au:guardOf ops env o=some true) (av:o.dst=some d) (aY:i9 d N=true) (ah:o.op = .binOp .shl t x y yt) (ab:aJ env x=some (.int k a)) (ax:aJ env y=some (.int k' b)) (an:0≤b) (aC:k.wrap (a*2^(min b.toNat k.bits))=r)
  (h:aa P N ops l Q ((d,.int k r)::env) s):aa P N ops (o::l) Q env s:=
 aa.op au av aY (aW.shl ah ab ax an aC) (fun x ai ⟨U,ad⟩=>by subst U;subst ad;exact h) (fun _ _ h=>h.elim)
theorem aa.shr {t yt:TypeId} {x y:Operand} {k k':IntKind} {a b:Int} (r:Int) (au:guardOf ops env o=some true) (av:o.dst=some d) (aY:i9 d N=true) (ah:o.op = .binOp .shr t x y yt) (ab:aJ env x=some (.int k a)) (ax:aJ env y=some (.int k' b)) (an:0≤b) (aC:a.fdiv (2^(min b.toNat k.bits))=r)
  (h:aa P N ops l Q ((d,.int k r)::env) s):aa P N ops (o::l) Q env s:=
 aa.op au av aY (aW.shr ah ab ax an aC) (fun x ai ⟨U,ad⟩=>by subst U;subst ad;exact h) (fun _ _ h=>h.elim)
theorem aa.bits {op:BinOp} {t yt:TypeId} {x y:Operand} {k:IntKind} {a b:Int} (r:Int) (au:guardOf ops env o=some true) (av:o.dst=some d) (aY:i9 d N=true) (ah:o.op = .binOp op t x y yt) (ab:aJ env x=some (.int k a)) (ax:aJ env y=some (.int k b)) (aC:bitsOf op k a b=some r)
  (h:aa P N ops l Q ((d,.int k r)::env) s):aa P N ops (o::l) Q env s:=
 aa.op au av aY (aW.bits ah ab ax aC) (fun x ai ⟨U,ad⟩=>by subst U;subst ad;exact h) (fun _ _ h=>h.elim)
end
theorem vC {m n:Nat} (hm:m<2^64) (aA:n<2^64):bitsOf .or .u64 (m:Int) (n:Int)=some ((m|||n:Nat):Int):=by
 show some (aa' .u64 ((ah5 64 (m:Int)|||ah5 64 (n:Int)).toNat:Int))=_;rw [q7,q7,ay6,ai4,ai4,aj3 hm,aj3 aA,wrap64 (Sx hm aA)]
theorem tG {m n:Nat} (hm:m<2^64) (aA:n<2^64):bitsOf .and .u64 (m:Int) (n:Int)=some ((m &&& n:Nat):Int):=by
 show some (aa' .u64 ((ah5 64 (m:Int) &&& ah5 64 (n:Int)).toNat:Int))=_;rw [q7,q7,au',ai4,ai4,aj3 hm,aj3 aA,wrap64 (J5 hm)]
theorem Fq {m:Nat} (h:m<2^63):aa' .i64 (m:Int)=(m:Int):=by
 unfold aa';simp [ak0,av8];omega
theorem Sy {m n:Nat} (hm:m<2^63) (aA:n<2^63):bitsOf .or .i64 (m:Int) (n:Int)=some ((m|||n:Nat):Int):=by
 show some (aa' .i64 ((ah5 64 (m:Int)|||ah5 64 (n:Int)).toNat:Int))=_;rw [q7,q7,ay6,ai4,ai4,aj3 ag,aj3 ag,Fq (ag' hm aA)]
theorem Ch {m n:Nat} (hm:m<2^63) (aA:n<2^63):bitsOf .and .i64 (m:Int) (n:Int)=some ((m &&& n:Nat):Int):=by
 show some (aa' .i64 ((ah5 64 (m:Int) &&& ah5 64 (n:Int)).toNat:Int))=_;rw [q7,q7,au',ai4,ai4,aj3 ag,aj3 ag,Fq (ah9 as7 hm)]
theorem Ci {m n:Nat} (hm:m<2^64) (aA:n<2^64):bitsOf .andNot .u64 (m:Int) (n:Int)=some ((kz m n:Nat):Int):=by
 show some (aa' .u64 ((ah5 64 (m:Int) &&& ~~~(ah5 64 (n:Int))).toNat:Int))=_;rw [q7,q7];unfold kz;have h:(ax4 64 m &&& ~~~(ax4 64 n)).toNat=m &&& (18446744073709551615 ^^^ n):=by
  rw [au',BitVec.toNat_not,ai4,ai4,aj3 hm,aj3 aA];apply al1;intro i;rw [aj2,aj2,Nat.testBit_xor];have ad:2^64-1-n=2^64-(n+1):=by omega
  rw [ad,Nat.testBit_two_pow_sub_succ aA,show (18446744073709551615:Nat)=2^64-1 from rfl,af9];by_cases aS:i<64
  ·simp [aS]
  ·have:m.testBit i=false:=ak6 (ai3 hm (af6 ag ag))
   simp [this]
 rw [h,wrap64 (J5 hm)]
theorem Cj {c:Nat} (h:c<64):aa' .u64 (1*2^(min (c:Int).toNat (ak0 .u64)))=((2^c:Nat):Int):=by
 have U:min (c:Int).toNat (ak0 .u64)=c:=by simp [ak0];omega
 rw [U];have ad:(1*2^c:Int)=((2^c:Nat):Int):=by push_cast;omega
 rw [ad,wrap64 (ag6 ag h)]
theorem tH {m c:Nat} (h:c<64):Int.fdiv (m:Int) (2^(min (c:Int).toNat (ak0 .u64)))=((m >>> c:Nat):Int):=by
 have U:min (c:Int).toNat (ak0 .u64)=c:=by simp [ak0];omega
 rw [U,Nat.shiftRight_eq_div_pow];have ad:(2^c:Int)=((2^c:Nat):Int):=by push_cast;rfl
 rw [ad,Int.fdiv_eq_ediv_of_nonneg _ (Int.natCast_nonneg _)];rfl
theorem ae.cl {P:Program} {N:Nat} {Q:bX→Env→ak→Prop} {env:Env} {s:ak} {L:a6} {σ:Type} {c:Code} (fU:List Nat) {zv:Env} (aD:vu fU env []=(zv,())) (I:Ok s L) (dr:σ→Env) (K:σ→a6) (acv:σ→Prop) (μ:σ→Nat) (ni:σ) {E3:a6} (aw:acv ni) (eV:Env.Sub (dr ni) env) (b6:aH L (K ni) E3)
  (round:∀ x,acv x→Ok s (K x)→ae P N c (bX.andThen (bF s (fun z=>dr z++zv) K acv (fun y=>μ y<μ x)) Q) (dr x++zv) (aQ s (K x))):ae P N (.loop c) Q env (aQ s L):=
 ae.xi I (fun z=>dr z++zv) K acv μ ni aw (eV.append (zi fU [] zv trivial aD)) b6 round
section
variable {P:Program} {Γ:cj} {N:Nat} {ops:Array Oper} {Q:bX→Env→ak→Prop} {env:Env} {s:ak} {l:List Oper} {o:Oper} {d:Nat}
theorem aW.arr (aP:bM P Γ) {t e:TypeId} {x y:Operand} {it aG:bL} {k:IntKind} {len b off j:Nat} {i:Int} (ah:o.op = .indexAddr t x y) (aK:Γ.get? t=some it) (br:it.bE = .arr len e) (bH:Γ.get? e=some aG) (ab:aJ env x=some (.ptr b off)) (ax:aJ env y=some (.int k i)) (eF:i=(j:Int)) (aO:j<len) :
  aW P N o env s (fun x ai=>x = .ptr b (off+j*aG.size)∧ai=s) (fun _ _=>False):=by
 obtain ⟨info,vD,U,ad,al,-⟩:=aP.parts aK;obtain ⟨jx,jZ,cv,db,e8,ew,-⟩:=aP.parts bH;obtain rfl:=yJ (al.trans br);refine aW.mO iN fun ro B a w p aI=>?_
 have U:=aI.aJ ab;have nk:=aI.aJ ax;generalize ei:a.eval x=dG at U;generalize e9:a.eval y=fJ at nk;cases U;cases nk;subst eF;refine .same (val := .pointer (some ⟨b,off+j*aG.size,none⟩)) ?_ (.ptr b _);unfold execOp;rw [ah];simp only [ei,e9];refine gC ?_;simp [Instr.indexAt,asIntOf,run_underlying ad,aO,sizeOf,typeInfo,cv,ew,kP,Instr.sureAddr]
theorem aW.lp (aP:bM P Γ) {t e:TypeId} {x y:Operand} {it aG:bL} {k:IntKind} {len off j:Nat} {cs:List af} {i:Int} (ah:o.op = .indexAddr t x y) (aK:Γ.get? t=some it) (br:it.bE = .arr len e) (bH:Γ.get? e=some aG) (ab:aJ env x=some (.bs cs off)) (ax:aJ env y=some (.int k i)) (eF:i=(j:Int)) (aO:j<len) :
  aW P N o env s (fun x ai=>x = .bs cs (off+j*aG.size)∧ai=s) (fun _ _=>False):=by
 obtain ⟨info,vD,U,ad,al,-⟩:=aP.parts aK;obtain ⟨jx,jZ,cv,db,e8,ew,-⟩:=aP.parts bH;obtain rfl:=yJ (al.trans br);refine aW.mO iN fun ro B a w p aI=>?_
 have U:=aI.aJ ab;have nk:=aI.aJ ax;generalize ei:a.eval x=dG at U;generalize e9:a.eval y=fJ at nk;cases nk;subst eF;cases U with
 | bs b base o' _ vs _ cr aF aC=>
 refine .same (val := .pointer (some ⟨b,o'+j*aG.size,none⟩)) ?_ (.bs b base _ _ vs cs ag aF aC);unfold execOp;rw [ah];simp only [ei,e9];refine gC ?_;simp [Instr.indexAt,asIntOf,run_underlying ad,aO,sizeOf,typeInfo,cv,ew,kP,Instr.sureAddr]
theorem aa.arr (aP:bM P Γ) {t e:TypeId} {x y:Operand} {it aG:bL} {k:IntKind} {len b off:Nat} {i:Int} (j:Nat) (au:guardOf ops env o=some true) (av:o.dst=some d) (aY:i9 d N=true) (ah:o.op = .indexAddr t x y) (aK:Γ.get? t=some it) (br:it.bE = .arr len e) (bH:Γ.get? e=some aG) (ab:aJ env x=some (.ptr b off)) (ax:aJ env y=some (.int k i)) (eF:i=(j:Int)) (aO:j<len)
  (h:aa P N ops l Q ((d,.ptr b (off+j*aG.size))::env) s):aa P N ops (o::l) Q env s:=
 aa.op au av aY (aW.arr aP ah aK br bH ab ax eF aO) (fun x ai ⟨U,ad⟩=>by subst U;subst ad;exact h) (fun _ _ h=>h.elim)
theorem aa.lp (aP:bM P Γ) {t e:TypeId} {x y:Operand} {it aG:bL} {k:IntKind} {len off:Nat} {cs:List af} {i:Int} (j:Nat) (au:guardOf ops env o=some true) (av:o.dst=some d) (aY:i9 d N=true) (ah:o.op = .indexAddr t x y) (aK:Γ.get? t=some it) (br:it.bE = .arr len e) (bH:Γ.get? e=some aG) (ab:aJ env x=some (.bs cs off)) (ax:aJ env y=some (.int k i)) (eF:i=(j:Int)) (aO:j<len)
  (h:aa P N ops l Q ((d,.bs cs (off+j*aG.size))::env) s):aa P N ops (o::l) Q env s:=
 aa.op au av aY (aW.lp aP ah aK br bH ab ax eF aO) (fun x ai ⟨U,ad⟩=>by subst U;subst ad;exact h) (fun _ _ h=>h.elim)
end
def lT (first i:Int):List Int→List Int→Bool
 | _,[]=>true
 | seen,c::r=>decide (c≥first)&&(decide (c<first+i)&&(!seen.contains c&&lT first i (seen++[c]) r))
def ny:Nat→List (List Int)→Bool
 | _,[]=>true
 | i,l::r=>decide (l.length≤3)&&(lT 3 i [] l&&ny (i+1) r)
def lU (g:List (List Int)):Bool:=decide (g.length≤16)&&ny 0 g
def fh (n:Int) (l:List Int):List Int:=l.filter fun x=>x != n
def free (all:List (List Int)) (c:Int):Bool:=all.all fun l => !(l.drop 1).contains c
def pick (all:List (List Int)):List (List Int)→Option Int
 | []=>none
 | []::r=>pick all r
 | (c::_)::r=>if free all c then some c else pick all r
def total (all:List (List Int)):Nat:=(all.map List.length).sum
def merge:Nat→List (List Int)→List Int→List Int×Bool
  | 0,_,acc=>(acc,false)
  | k+1,all,acc=>match pick all all with
    | none=>(acc,all.all an2)
    | some c=>merge k (all.map (fh c)) (acc++[c])
def merged (all:List (List Int)):List Int×Bool:=merge (total all+1) all []
def parents (g:List (List Int)) (c:Nat):List Int:=if c<3 then [] else g.getD (c-3) []
def iB (fo:List (List Int)):List Int→Option (List (List Int))
 | []=>some []
 | p::r=>if (fo.getD p.toNat []).isEmpty then none else (iB fo r).map fun l=>fh 0 (fo.getD p.toNat [])::l
def lists (g:List (List Int)) (fo:List (List Int)) (c:Nat):Option (List (List Int)):=(iB fo (parents g c)).map fun l=>l++[parents g c]
def order (g:List (List Int)) (fo:List (List Int)) (c:Nat):List Int:=match lists g fo c with
 | none=>[]
 | some all=>if (merged all).2 then (c:Int)::(merged all).1++[0] else []
def fo (g:List (List Int)):Nat→List (List Int)
 | 0=>[[0]]
 | k+1=>fo g k++[order g (fo g k) (k+1)]
theorem sE (g:List (List Int)):∀ k,(fo g k).length=k+1
 | 0=>rfl
 | k+1=>by rw [fo,d9,sE g k];rfl
theorem xm (n:Int) (l:List Int):(fh n l).length≤l.length:=aj0 ..
theorem Sz (n:Int) (l:List Int):fh n (n::l)=fh n l:=by unfold fh;simp
theorem SA (n:Int) (all:List (List Int)):total (all.map (fh n))≤total all:=by
 unfold total
 induction all with
 | nil=>exact i0 _
 | cons l r aX=>
  have:=xm n l;simp only [ac0,List.sum_cons] at aX ⊢;omega
theorem Ck {n:Int} {all:List (List Int)} (h:∃ t,n::t∈all):total (all.map (fh n))<total all:=by
 obtain ⟨t,h⟩:=h
 induction all with
 | nil=>cases h
 | cons l r aX=>
  have bo:total (l::r)=l.length+total r:=rfl;have U:total ((l::r).map (fh n))=(fh n l).length+total (r.map (fh n)):=rfl;rw [bo,U];rcases ad4.1 h with rfl|h
  ·have ad:=xm n t
   have al:=SA n r;rw [Sz,i7];omega
  ·have:=aX h
   have:=xm n l;omega
theorem tI {all:List (List Int)} {c:Int}:∀ {l:List (List Int)},pick all l=some c→∃ t,c::t∈l
  | [],h=>by cases h
  | []::r,h=>by
    obtain ⟨t,h⟩:=tI (l:=r) h;exact ⟨t,g7 _ h⟩
  | (d::q)::r,h=>by
    rw [pick] at h;split at h
    · cases h;exact ⟨q,i5⟩
    · obtain ⟨t,h⟩:=tI (l:=r) h
      exact ⟨t,g7 _ h⟩
structure bJ where
 atom:Int
 no:Int
 yes:Int
 ms:List Int
 deriving DecidableEq,Inhabited
def q8:List Int→Bool
 | []=>true
 | [x]=>decide (x≥0)
 | x::y::r=>decide (x≥0)&&(decide (x<y)&&q8 (y::r))
def lV (len i:Nat) (x:bJ):Bool:=
 if x.atom = -1 then decide (x.no=0)&&(decide (x.yes=0)&&(decide (x.ms.length≤16)&&q8 x.ms))
 else decide (x.atom≥0)&&(decide (x.atom<7)&&(decide (x.no>i)&&(decide (x.no<len)&&(decide (x.yes>i)&&(decide (x.yes<len)&&x.ms.isEmpty)))))
def sF (len:Nat):Nat→List bJ→Bool
 | _,[]=>true
 | i,x::r=>lV len i x&&sF len (i+1) r
def je (g:List bJ):Bool:=decide (1≤g.length)&&(decide (g.length≤300)&&sF g.length 0 g)
def fi:Nat→List bJ→List Int
 | _,[]=>[]
 | i,x::r=>
  let h:=fi (i+1) r
  (if x.atom≥0 then 1+max (h.getD (x.no.toNat-(i+1)) 0) (h.getD (x.yes.toNat-(i+1)) 0) else 0)::h
def j7 (g:List bJ):Int:=(fi 0 g).getD 0 0
def nz {α:Type} (f:Nat→α→Bool):Nat→List α→Option Nat
  | _,[]=>none
  | k,x::r=>match nz f (k+1) r with
    | some j=>some j
    | none=>if f k x then some k else none
def c2:Nat→List bJ→List Int×List bJ
 | _,[]=>([],[])
 | i,x::r=>
  let p:=c2 (i+1) r
  let y:bJ:=if x.atom≥0 then { x with no:=p.1.getD (x.no.toNat-(i+1)) 0,yes:=p.1.getD (x.yes.toNat-(i+1)) 0 } else x
  let k:Int:=match nz (fun k z=>p.1.getD k 0==((i+1+k:Nat):Int)&&z==y) 0 p.2 with
   | some k=>((i+1+k:Nat):Int)
   | none=>(i:Int)
  (k::p.1,y::p.2)
def meet (g:List bJ):Nat→List Int→Int→List Int
 | 0,order,_=>order
 | k+1,order,eX=>
  if order.contains eX then order
  else
   let x:=g.getD eX.toNat default
   (if x.atom≥0 then meet g k (meet g k order x.yes) x.no else order)++[eX]
def placeOf (l:List Int) (n:Int):Int:=((l.findIdx? (· == n)).getD 0:Nat)
def small (g:List bJ):List bJ:=
 let p:=c2 0 g
 let order:=meet p.2 (g.length+1) [] (p.1.getD 0 0)
 order.reverse.map fun eX=>
  let x:=p.2.getD eX.toNat default
  if x.atom≥0 then { x with no:=(order.length:Int)-1-placeOf order x.no,yes:=(order.length:Int)-1-placeOf order x.yes } else x
inductive aq where
 | mk (op arg:Int) (path:List Int) (cls n:Int) (kids:List aq)
namespace aq
def op:aq→Int | .mk o _ _ _ _ _=>o
def arg:aq→Int | .mk _ a _ _ _ _=>a
def path:aq→List Int | .mk _ _ p _ _ _=>p
def cls:aq→Int | .mk _ _ _ c _ _=>c
def n:aq→Int | .mk _ _ _ _ n _=>n
def kids:aq→List aq | .mk _ _ _ _ _ k=>k
mutual
def size:aq→Nat
 | .mk _ _ p _ _ ks=>1+p.length+iC ks
def iC:List aq→Nat
 | []=>0
 | k::r=>k.size+iC r
end
theorem size_eq (x:aq):x.size=1+x.path.length+iC x.kids:=by cases x;rw [size];rfl
theorem iD:∀ {l:List aq} {x:aq},x∈l→x.size≤iC l
  | k::r,x,h=>by
    rw [iC];rcases ad4.1 h with rfl|h
    · omega
    · have:=iD h;omega
theorem p9:∀ l:List aq,l.length≤iC l
 | []=>i0 _
 | k::r=>by have:=p9 r;rw [iC,i7,size_eq];omega
instance:Inhabited aq:=⟨.mk 0 0 [] 0 0 []⟩
mutual
def same:aq→aq→Bool
 | .mk o a p c n ks,.mk o' c3 bg nA n' Cl=>decide (o=o')&&(decide (a=c3)&&(decide (c=nA)&&(decide (n=n')&&(p==bg&&oo ks Cl))))
def oo:List aq→List aq→Bool
 | [],[]=>true
 | x::r,y::t=>same x y&&oo r t
 | _,_=>false
end
mutual
theorem J6:∀ (x y:aq),same x y=true↔x=y
  | .mk o a p c n ks,.mk o' c3 bg nA n' Cl=>by
    rw [same];simp only [f6,g8,aj1,J7 ks Cl,aq.mk.injEq];constructor
    · rintro ⟨U,ad,al,bd,bB,gN⟩;exact ⟨U,ad,bB,al,bd,gN⟩
    · rintro ⟨U,ad,bB,al,bd,gN⟩;exact ⟨U,ad,al,bd,bB,gN⟩
theorem J7:∀ (x y:List aq),oo x y=true↔x=y
  | [],[]=>by simp [oo]
  | [],y::t=>by simp [oo]
  | x::r,[]=>by simp [oo]
  | x::r,y::t=>by
    rw [oo,f6,J6 x y,J7 r t,List.cons.injEq]
end
def c7 (f:aq):Bool:=decide (f.op≥2)&&decide (f.op≤4)
def not (f:aq):aq := .mk 5 0 [] 0 0 [f]
def and (f g:aq):aq := .mk 6 0 [] 0 0 [f,g]
end aq
structure bw where
 ps:List (List Int)
 owner:List Int
structure iE where
 slot:Int
 n:Int
structure e3 where
 parents:List Int
 bj:List Int
 inits:List iE
 deriving Inhabited
structure gP where
 kind:Int
 gen:Int
 fact:aq
 node:Int
 deriving Inhabited
structure hX where
 op:Int
 n:Int
 kids:List Int
 deriving Inhabited
structure bK where
 bT:List e3
 bj:Int
 cR:List Int
 methods:List gP
 nodes:List hX
 main:Int
structure ev where
 cls:Int
 bj:List (Int×Int)
 deriving Inhabited
def q9 (op:Int):Nat:=if op=5 then 1 else if op=6∨op=7 then 2 else 0
def j8 (n:Int):Bool:=decide (n ≥ -1000000000)&&decide (n≤1000000000)
def hi (w:bw) (f:aq):Bool:=
 decide (f.op≥1)&&(decide (f.op≤7)&&(decide (f.kids.length=q9 f.op) &&
  (if f.c7 then
   decide (f.arg≥0)&&(decide (f.arg<3)&&(decide (f.path.length≤2)&&(f.path.all (fun s=>decide (s≥0)&&decide (s<w.owner.length)) &&
    (if f.op=2 then decide (f.n=0)&&(decide (f.cls≥0)&&decide (f.cls<3+w.ps.length)) else decide (f.cls=0)&&j8 f.n))))
  else decide (f.arg=0)&&(decide (f.path.length=0)&&(decide (f.cls=0)&&decide (f.n=0))))))
mutual
def e0 (w:bw) (d:Nat) (k:Int):aq→Bool×Int
 | .mk o a p c n ks=>
  if decide (k-1<0)||decide (d=0) then (false,k-1)
  else if hi w (.mk o a p c n ks) then gQ w (d-1) (k-1) ks else (false,k-1)
def gQ (w:bw) (d:Nat) (k:Int):List aq→Bool×Int
 | []=>(true,k)
 | x::r=>if (e0 w d k x).1 then gQ w d (e0 w d k x).2 r else (false,(e0 w d k x).2)
end
def il (w:bw) (f:aq):Bool:=(e0 w 12 24 f).1
def vE:Nat→List (List Int)→Bool
 | _,[]=>true
 | i,l::r=>lT 3 i [] l&&vE (i+1) r
structure fQ (w:bw):Prop where
 j9:w.ps.length≤60
 short:∀ l∈w.ps,l.length≤3
 nB:vE 0 w.ps=true
 bj:w.owner.length≤40
 own:∀ o∈w.owner,3≤o∧o<3+(w.ps.length:Int)
def q' (up:List Nat) (l:List Int):Nat:=l.foldl (fun s p=>s|||up.getD p.toNat 0) (1|||2^up.length)
def jG:List Nat→List (List Int)→List Nat
 | up,[]=>up
 | up,l::r=>jG (up++[q' up l]) r
def eI (ps:List (List Int)):List Nat:=jG [1,3,5] ps
theorem J8:∀ (ps:List (List Int)) (up:List Nat),(jG up ps).length=up.length+ps.length
 | [],up=>rfl
 | l::r,up=>by rw [jG,J8 r,d9,ac8,i7];omega
theorem sG (ps:List (List Int)):(eI ps).length=3+ps.length:=J8 ps _
theorem Cm:∀ {ps:List (List Int)} {i j:Nat} {l:List Int},vE i ps=true→ps[j]? = some l→lT 3 ((i+j:Nat):Int) [] l=true
  | l::r,i,0,x,h,ab=>by
    rw [vE,f6] at h;have:l=x:=by simpa using ab
    subst this;exact h.1
  | l::r,i,j+1,x,h,ab=>by
    rw [vE,f6] at h;have:=Cm (j:=j) h.2 (by simpa using ab);rw [show i+(j+1)=i+1+j by omega];exact this
theorem Cn {i:Int}:∀ {l seen:List Int} {k:Nat} {p:Int},lT 3 i seen l=true→l[k]? = some p→3≤p∧p<3+i∧p∉seen++l.take k
  | c::r,seen,0,p,h,aE=>by
    rw [lT] at h;simp only [f6,g8,Bool.not_eq_true',List.contains_eq_mem,decide_eq_false_iff_not] at h;have:c=p:=by simpa using aE
    subst this;refine ⟨h.1,h.2.1,by simpa using h.2.2.1⟩
  | c::r,seen,k+1,p,h,aE=>by
    rw [lT] at h;simp only [f6,g8] at h;have:=Cn (k:=k) h.2.2.2 (by simpa using aE);refine ⟨this.1,this.2.1,?_⟩;rw [List.take_succ_cons];have al:=this.2.2;simpa using al
theorem Fs {m n:Nat} (h:m<2^64) (k:n<2^64):m|||n<2^64:=ag' h k
theorem SB {up:List Nat} (h:∀ m∈up,m<2^64) (k:Nat):up.getD k 0<2^64:=by
 rw [d5];cases ab:up[k]? with
 | none=>exact Nat.two_pow_pos 64
 | some x=>exact h x (d6 ab)
theorem Ft {up:List Nat} (h:∀ m∈up,m<2^64):∀ (l:List Int) (s:Nat),s<2^64→l.foldl (fun s p=>s|||up.getD p.toNat 0) s<2^64
 | [],s,ao=>ao
 | p::r,s,ao=>Ft h r _ (Fs ao (SB h _))
theorem SC {up:List Nat} (h:∀ m∈up,m<2^64) (aB:up.length<64) (l:List Int):q' up l<2^64:=
 Ft h l _ (Fs dE (ag6 ag aB))
theorem J9:∀ (ps:List (List Int)) (up:List Nat),(∀ m∈up,m<2^64)→up.length+ps.length<64→∀ m∈jG up ps,m<2^64
  | [],up,h,_=>h
  | l::r,up,h,aB=>by
    rw [i7] at aB;rw [jG];refine J9 r _ (fun m hm=>?_) (by rw [d9,ac8];omega);rcases ac7.1 hm with hm|hm
    · exact h m hm
    · rw [t7] at hm;subst hm
      exact SC h ag l
theorem xn {ps:List (List Int)} (h:ps.length≤60):∀ m∈eI ps,m<2^64:=
 J9 ps _ (by intro m hm;simp at hm;rcases hm with rfl|rfl|rfl<;>decide) cO
theorem J' (l:List Int):∀ (ps:List (List Int)) (up:List Nat),jG up (ps++[l])=jG up ps++[q' (jG up ps) l]
 | [],up=>rfl
 | x::r,up=>by rw [t8,jG,J' l r,← jG]
theorem Ka (ps:List (List Int)) (l:List Int):eI (ps++[l])=eI ps++[q' (eI ps) l]:=J' l ps _
def pad (u:List Nat):List Nat:=u++t6 (63-u.length) 0
theorem SD {u:List Nat} (h:u.length≤63):(pad u).length=63:=by unfold pad;simp;omega
theorem xo {u:List Nat} {i:Nat} {m:Nat} (h:u[i]? = some m):(pad u)[i]? = some m:=by
 unfold pad;rw [ad3 (ac1.1 h).1];exact h
theorem SE {u:List Nat} (h:u.length<63) (v:Nat):(pad u).set u.length v=pad (u++[v]):=by
 unfold pad;rw [List.set_append_right _ _ (i0 _),ao5,ae6,d9,ac8];congr 1;obtain ⟨n,aA⟩:∃ n,63-u.length=n+1:=⟨62-u.length,by omega⟩;have ad:63-(u.length+1)=n:=by omega
 rw [aA,ad,List.replicate_succ];rfl
mutual
def gR (w:bw):aq→Bool
 | .mk o a p c n ks=>hi w (.mk o a p c n ks)&&jH w ks
def jH (w:bw):List aq→Bool
 | []=>true
 | x::r=>gR w x&&jH w r
end
theorem pd (w:bw) (f:aq):gR w f=(hi w f&&jH w f.kids):=by cases f;rw [gR];rfl
theorem lq {w:bw}:∀ {l:List aq} {x:aq},jH w l=true→x∈l→gR w x=true
  | y::r,x,h,ab=>by
    rw [jH,f6] at h;rcases ad4.1 ab with rfl|ab
    · exact h.1
    · exact lq h.2 ab
mutual
theorem tJ:∀ (f:aq) (w:bw) (d:Nat) (k:Int),(e0 w d k f).1=true→gR w f=true
  | .mk o a p c n ks,w,d,k,h=>by
    rw [e0] at h;split at h
    · cases h
    · split at h
      · rename_i aA
        rw [gR,aA,f4];exact Kb ks w _ _ h
      · cases h
theorem Kb:∀ (l:List aq) (w:bw) (d:Nat) (k:Int),(gQ w d k l).1=true→jH w l=true
  | [],_,_,_,_=>rfl
  | x::r,w,d,k,h=>by
    rw [gQ] at h;split at h
    · rename_i ab
      rw [jH,tJ x w d k ab,Kb r w d _ h];rfl
    · cases h
end
mutual
def kY:aq→Int
 | .mk o a p c n ks=>iF (if (aq.mk o a p c n ks).c7 then a+1 else 0) ks
def iF (m:Int):List aq→Int
 | []=>m
 | x::r=>iF (max m (kY x)) r
end
theorem Co (f:aq):kY f=iF (if f.c7 then f.arg+1 else 0) f.kids:=by cases f;rw [kY];rfl
theorem Kc:∀ (l r:List aq) (m:Int),iF m (l++r)=iF (iF m l) r
 | [],r,m=>by rw [d7,iF]
 | x::l,r,m=>by rw [t8,iF,iF,Kc l r]
theorem Cp:∀ (l:List aq) (m:Int),m≤iF m l∧∀ x∈l,kY x≤iF m l
  | [],m=>⟨by rw [iF];exact aj4 _,fun x h=>by cases h⟩
  | x::r,m=>by
    have aX:=Cp r (max m (kY x));rw [iF];refine ⟨by have:=aX.1;omega,fun y ax=>?_⟩;rcases ad4.1 ax with rfl|ax
    · have:=aX.1;omega
    · exact aX.2 y ax
def hj (n:Int) (v:Int×Int):Bool:=
 if v.1=1 then j8 v.2 else if v.1=2 then decide (v.2=0) else decide (v.1=3)&&(decide (v.2≥0)&&decide (v.2<n))
def nC (w:bw) (m:Nat):List Int:=((List.range w.owner.length).filter fun s=>m.testBit (w.owner.getD s 0).toNat).map fun (s:Nat)=>(s:Int)
def xp (w:bw) (c:Int):Bool:=decide (c≥3)&&decide (c<3+(w.ps.length:Int))
def zw (w:bw) (n:Int) (o:ev):Bool:=xp w o.cls&&(decide (o.bj.length=(nC w ((eI w.ps).getD o.cls.toNat 0)).length)&&o.bj.all (hj n))
def zx (w:bw) (bf:List ev):Bool:=decide (bf.length≤40)&&bf.all (zw w bf.length)
def nD (w:bw) (bf:List ev) (args:List (Int×Int)):Bool:=
 zx w bf&&(decide (args.length≥1)&&(decide (args.length≤3)&&args.all (hj bf.length)))
def oq (w:bw) (c:Int):Nat:=(eI w.ps).getD c.toNat 0
def p' (w:bw) (bf:List ev):Int×Int→List Int→Option (Int×Int)
 | v,[]=>some v
 | v,s::r=>
  let o:=bf.getD v.2.toNat default
  if v.1≠3 then none
  else if (oq w o.cls).testBit (w.owner.getD s.toNat 0).toNat then
   p' w bf (o.bj.getD (((nC w (oq w o.cls)).findIdx? (· == s)).getD 0) (0,0)) r
  else none
def tK (w:bw) (bf:List ev) (args:List (Int×Int)) (f:aq):Bool:=
 match p' w bf (args.getD f.arg.toNat (0,0)) f.path with
 | none=>false
 | some v=>
  if f.op=2 then (if v.1=3 then (oq w (bf.getD v.2.toNat default).cls).testBit f.cls.toNat else (oq w v.1).testBit f.cls.toNat)
  else decide (v.1=1)&&((decide (v.2=f.n)==decide (f.op=4))&&decide (v.2≤f.n))
mutual
def sH (w:bw) (bf:List ev) (args:List (Int×Int)):aq→Bool
 | .mk o a p c n ks=>
  if o=1 then true
  else if o=5 then !(nE w bf args 0 ks)
  else if o=6 then nE w bf args 0 ks&&nE w bf args 1 ks
  else if o=7 then nE w bf args 0 ks||nE w bf args 1 ks
  else tK w bf args (.mk o a p c n ks)
def nE (w:bw) (bf:List ev) (args:List (Int×Int)):Nat→List aq→Bool
 | _,[]=>false
 | 0,x::_=>sH w bf args x
 | n+1,_::r=>nE w bf args n r
end
theorem Cq (w:bw) (bf:List ev) (args:List (Int×Int)):∀ (n:Nat) (l:List aq) (x:aq),l[n]? = some x→nE w bf args n l=sH w bf args x
 | 0,y::r,x,h=>by rw [nE];simp at h;rw [h]
 | n+1,y::r,x,h=>by rw [nE];exact Cq w bf args n r x gT
theorem SF (w:bw) (bf:List ev) (args:List (Int×Int)) (f:aq):sH w bf args f =
  if f.op=1 then true
  else if f.op=5 then !(nE w bf args 0 f.kids)
  else if f.op=6 then nE w bf args 0 f.kids&&nE w bf args 1 f.kids
  else if f.op=7 then nE w bf args 0 f.kids||nE w bf args 1 f.kids
  else tK w bf args f:=by cases f;rw [sH];rfl
theorem Kd:∀ (a b:List (List Int)) (up:List Nat),jG up (a++b)=jG (jG up a) b
 | [],b,up=>rfl
 | x::a,b,up=>by rw [t8,jG,Kd a b,← jG]
theorem Ke:∀ (ps:List (List Int)) (up:List Nat),∃ r,jG up ps=up++r
  | [],up=>⟨[],by rw [jG,d8]⟩
  | l::r,up=>by
    obtain ⟨t,h⟩:=Ke r (up++[q' up l]);exact ⟨[q' up l]++t,by rw [jG,h,ae6]⟩
theorem zy {ps:List (List Int)} {i k:Nat} (aS:i≤ps.length) (aD:k<3+i):(eI (ps.take i)).getD k 0=(eI ps).getD k 0:=by
 have h:eI ps=jG (eI (ps.take i)) (ps.drop i):=by
  show jG [1,3,5] ps=jG (jG [1,3,5] (ps.take i)) (ps.drop i);rw [← Kd,ag4]
 obtain ⟨r,aC⟩:=Ke (ps.drop i) (eI (ps.take i));rw [h,aC];have aB:(eI (ps.take i)).length=3+i:=by rw [sG,ac9,ak1 aS]
 rw [d5,d5,ad3 ag]
theorem SG {ps:List (List Int)} {i:Nat} {l:List Int} (aB:ps[i]? = some l):(eI ps).getD (3+i) 0=q' (eI (ps.take i)) l:=by
 have aS:=(ac1.1 aB).1;rw [← zy (i:=i+1) ag ag];have:ps.take (i+1)=ps.take i++[l]:=by rw [ak7,aB];rfl
 rw [this,Ka,d5,ad6 (by rw [sG,ac9];omega)];rw [sG,ac9,ak1 ag,ao5];rfl
theorem Kf (up:List Nat) (k:Nat):∀ (l:List Int) (s:Nat),(l.foldl (fun s p=>s|||up.getD p.toNat 0) s).testBit k=(s.testBit k||l.any fun p=>(up.getD p.toNat 0).testBit k)
 | [],s=>by simp
 | p::r,s=>by rw [List.foldl_cons,Kf up k r,aj7,List.any_cons,ap1]
theorem zz (k:Nat):(1:Nat).testBit k=decide (k=0):=by
 cases k with
 | zero=>rfl
 | succ k=>rw [Nat.testBit_succ];simp
theorem SH (c k:Nat):(2^c).testBit k=decide (c=k):=ai9
theorem Cr {w:bw} (hw:fQ w) {i:Nat} {l:List Int} (aB:w.ps[i]? = some l) (k:Nat):((eI w.ps).getD (3+i) 0).testBit k=(decide (k=0)||(decide (3+i=k)||l.any fun p=>((eI w.ps).getD p.toNat 0).testBit k)):=by
 have aS:=(ac1.1 aB).1;rw [SG aB,q',Kf,aj7,zz,SH];rw [show (eI (w.ps.take i)).length=3+i by rw [sG,ac9,ak1 ag],ap1];congr 2;have au:=Cm hw.nB aB;rw [ad1,ae4,ae4];constructor <;>
 ·rintro ⟨p,aE,h⟩
  obtain ⟨j,aO⟩:=ag7 aE;have:=Cn au aO;refine ⟨p,aE,?_⟩;have e:=zy (ps:=w.ps) (i:=i) (k:=p.toNat) ag ag
  first|rw [← e];exact h|rw [e];exact h
theorem xq {w:bw} (hw:fQ w) {i:Nat} {l:List Int} (aB:w.ps[i]? = some l) {p:Int} (aE:p∈l):3≤p∧p<3+(i:Int):=by
 obtain ⟨j,aO⟩:=ag7 aE;have:=Cn (Cm hw.nB aB) aO;omega
theorem Cs {w:bw} (hw:fQ w) {c:Nat} (U:c<3+w.ps.length):((eI w.ps).getD c 0).testBit c=true:=by
 by_cases h:c<3
 ·rw [← zy (ps:=w.ps) (i:=0) (g9 _) ag,aj8]
  rcases (by omega:c=0∨c=1∨c=2) with rfl|rfl|rfl<;>rfl
 ·obtain ⟨i,rfl⟩:∃ i,c=3+i:=⟨c-3,by omega⟩
  rw [Cr hw (f8 ag)];simp
theorem SI {w:bw} (hw:fQ w) {c:Nat} (U:c<3+w.ps.length):((eI w.ps).getD c 0).testBit 0=true:=by
 by_cases h:c<3
 ·rw [← zy (ps:=w.ps) (i:=0) (g9 _) ag,aj8]
  rcases (by omega:c=0∨c=1∨c=2) with rfl|rfl|rfl<;>rfl
 ·obtain ⟨i,rfl⟩:∃ i,c=3+i:=⟨c-3,by omega⟩
  rw [Cr hw (f8 ag)];simp
theorem Ct {w:bw} {c k:Nat} (aF:c<3) (h:((eI w.ps).getD c 0).testBit k=true):k=c∨k=0:=by
 rw [← zy (ps:=w.ps) (i:=0) (g9 _) ag,aj8] at h;rcases (by omega:c=0∨c=1∨c=2) with rfl|rfl|rfl
 ·rw [show (eI []).getD 0 0=1 from rfl,zz,g8] at h
  exact .inr h
 ·have:k<2:=by
   rcases ao6 k 2 with ad|ad
   ·exact ad
   ·have:=ak6 (x:=3) (i:=k) (ai3 dE (af6 dE ad))
    rw [show (eI []).getD 1 0=3 from rfl,this] at h;cases h
  omega
 ·have:k<3:=by
   rcases ao6 k 3 with ad|ad
   ·exact ad
   ·have:=ak6 (x:=5) (i:=k) (ai3 dE (af6 dE ad))
    rw [show (eI []).getD 2 0=5 from rfl,this] at h;cases h
  rcases (by omega:k=0∨k=1∨k=2) with rfl|rfl|rfl
  ·exact .inr C
  ·exact absurd h dE
  ·exact .inl C
theorem xr {w:bw} (hw:fQ w):∀ (n c k:Nat),c<n→c<3+w.ps.length→((eI w.ps).getD c 0).testBit k=true→k≤c∧(3≤c→k=0∨3≤k)
  | 0,_,_,h,_,_=>by omega
  | n+1,c,k,h,aF,an=>by
    by_cases al:c<3
    · have:=Ct al an;omega
    · obtain ⟨i,rfl⟩:∃ i,c=3+i:=⟨c-3,by omega⟩
      obtain ⟨l,aB⟩:∃ l,w.ps[i]? = some l:=⟨_,f8 ag⟩;rw [Cr hw aB] at an;simp only [ag9,g8,ae4] at an;rcases an with an|an|⟨p,aE,an⟩
      · omega
      · omega
      · have U:=xq hw aB aE
        have:=xr hw n p.toNat k ag ag an;omega
def gG (ps:List (List Int)):Nat→(Nat→Bool)→Nat→Bool
 | 0,f=>f
 | m+1,f=>gG ps m fun k=>f k||(f (3+m)&&(ps.getD m []).contains (k:Int))
theorem Fu {w:bw} (hw:fQ w):∀ (m:Nat) (f:Nat→Bool) (k:Nat),k<3→m≤w.ps.length→gG w.ps m f k=f k
  | 0,f,k,_,_=>rfl
  | m+1,f,k,aD,hm=>by
    obtain ⟨l,aB⟩:∃ l,w.ps[m]? = some l:=⟨_,f8 ag⟩;rw [gG,Fu hw m _ k aD ag,d5,aB,ae7];have:l.contains (k:Int)=false:=by
      rw [ae9];intro h;have:=xq hw aB (af8.1 h);omega
    rw [this,ai5,ak5]
theorem Fv {w:bw} (hw:fQ w):∀ (m:Nat) (f:Nat→Bool) (k:Nat),3≤k→m≤w.ps.length→(gG w.ps m f k=true↔f k=true∨∃ j,j<m∧f (3+j)=true∧((eI w.ps).getD (3+j) 0).testBit k=true)
  | 0,f,k,_,_=>by
    rw [gG];constructor
    · exact .inl
    · rintro (h|⟨j,h,_⟩)
      · exact h
      · omega
  | m+1,f,k,aD,hm=>by
    obtain ⟨l,aB⟩:∃ l,w.ps[m]? = some l:=⟨_,f8 ag⟩;rw [gG,Fv hw m _ k aD ag,d5,aB,ae7];have ra:=Cr hw aB k;simp only [ag9,f6,af8];constructor
    · rintro ((h|⟨U,ad⟩)|⟨j,aO,h,an⟩)
      · exact .inl h
      · refine .inr ⟨m,ak' _,U,?_⟩
        rw [ra];have al:=xq hw aB ad;simp only [ag9,ae4];exact .inr (.inr ⟨(k:Int),ad,by rw [ac3];exact Cs hw ag⟩)
      · rcases h with h|⟨U,ad⟩
        · exact .inr ⟨j,by omega,h,an⟩
        · refine .inr ⟨m,ak' _,U,?_⟩
          rw [ra];simp only [ag9,ae4];exact .inr (.inr ⟨((3+j:Nat):Int),ad,by rw [ac3];exact an⟩)
    · rintro (h|⟨j,aO,h,an⟩)
      · exact .inl (.inl h)
      · rcases af3.1 aO with aO|rfl
        · exact .inr ⟨j,aO,.inl h,an⟩
        · rw [ra] at an
          simp only [ag9,g8,ae4] at an;rcases an with an|an|⟨p,aE,an⟩
          · omega
          · subst an;exact .inl (.inl h)
          · have al:=xq hw aB aE
            refine .inr ⟨p.toNat-3,by omega,.inr ⟨h,?_⟩,?_⟩
            · rw [show ((3+(p.toNat-3):Nat):Int)=p by omega];exact aE
            · rw [show 3+(p.toNat-3)=p.toNat by omega];exact an
def vF (w:bw) (c:Nat):Nat→Bool:=gG w.ps (c-2) fun k=>decide (k=c)
theorem Fw {w:bw} (hw:fQ w) {c k:Nat} (aF:c<3+w.ps.length) (aD:1≤k):vF w c k=((eI w.ps).getD c 0).testBit k:=by
 unfold vF;by_cases al:c<3
 ·rw [show c-2=0 by omega,gG,ad1,g8]
  constructor
  ·rintro rfl;exact Cs hw aF
  ·intro h;have:=Ct al h;omega
 ·by_cases sd:k<3
  ·rw [Fu hw _ _ _ sd ag]
   rw [ad1,g8];constructor
   ·omega
   ·intro h;have:=xr hw (c+1) c k ag aF h;omega
  ·rw [ad1,Fv hw _ _ _ ag ag]
   simp only [g8];constructor
   ·rintro (rfl|⟨j,aO,rfl,an⟩)
    ·exact Cs hw aF
    ·exact an
   ·intro h;exact .inr ⟨c-3,by omega,by omega,by rw [show 3+(c-3)=c by omega];exact h⟩
def gH (p:bK):List (List Int):=p.bT.map e3.parents
def eQ:Nat→List e3→List Int
 | _,[]=>[]
 | i,c::r=>t6 c.bj.length ((i:Int)+3)++eQ (i+1) r
def b3 (p:bK):bw:=⟨gH p,eQ 0 p.bT⟩
def m2:Int→List Int→Option Int
 | n,[]=>some n
 | n,s::r=>if s=n then m2 (n+1) r else none
def kZ:Int→List e3→Option Int
 | n,[]=>some n
 | n,c::r=>if c.bj.length≤4 then (m2 n c.bj).bind fun m=>kZ m r else none
def nF (cs:List e3):Nat→List Int→List Int→List Int
 | 0,_,out=>out
 | k+1,up,out=>
  if up.contains ((k:Int)+3) then nF cs k (up++(cs.getD k default).parents) (out++(cs.getD k default).bj)
  else nF cs k up out
def ot (l:List Int):List Int:=l.mergeSort fun a b=>decide (a≤b)
def ou (p:bK) (c:Nat):List Int:=ot (nF p.bT (c+1) [(c:Int)+3] [])
def qa (vG:List Int):List Int→List iE→Bool
 | _,[]=>true
 | seen,x::r=>vG.contains x.slot&&(!seen.contains x.slot&&(j8 x.n&&qa vG (seen++[x.slot]) r))
def xt (p:bK) (i:Nat):List Int:=(fo (gH p) (2+(gH p).length)).getD i []
def Fx (p:bK) (i:Nat) (c:e3):Bool := !(xt p (i+3)).isEmpty&&qa (ou p i) [] c.inits
def qb (p:bK):Nat→List e3→Bool
 | _,[]=>true
 | i,c::r=>Fx p i c&&qb p (i+1) r
def nG (p:bK):Bool:=decide (p.bT.length≤10)&&((kZ 0 p.bT==some p.bj)&&(lU (gH p)&&qb p 0 p.bT))
def mv (p:bK) (x:hX) (size:Int):Bool:=
 if x.op=1 then j8 x.n
 else if x.op=3 then decide (x.n≥0)&&decide (x.n<size)
 else if x.op=4∨x.op=7 then decide (x.n≥0)&&decide (x.n<p.bj)
 else if x.op=6∨x.op=8 then decide (x.n≥3)&&decide (x.n<3+(p.bT.length:Int))
 else if x.op=5 then decide (x.n≥0)&&decide (x.n<(p.cR.length:Int))
 else decide (x.n≥0)&&decide (x.n<1)
def rb (p:bK) (x:hX):Option Int:=
 if x.op=5 then some (p.cR.getD x.n.toNat 0)
 else if x.op=1∨x.op=2∨x.op=3∨x.op=6∨x.op=18 then some 0
 else if x.op=4∨x.op=8∨x.op=17 then some 1
 else if x.op=7∨x.op=9∨x.op=11∨x.op=12∨x.op=13∨x.op=14∨x.op=15∨x.op=16 then some 2
 else if x.op=10 then some 3
 else none
def xu (p:bK) (next:Bool) (x:hX) (size:Int):Bool:=mv p x size&&((next||decide (x.op≠18))&&(rb p x==some (x.kids.length:Int)))
def k0 (g:Int→Int→List Int→Option (List Int)) (isLet:Bool) (size:Int):Nat→List Int→List Int→Option (List Int)
 | _,[],out=>some out
 | i,k::r,out=>(g k (if isLet&&i==1 then size+1 else size) out).bind (k0 g isLet size (i+1) r)
def ov (p:bK) (n:Int) (out:List Int):Bool:=decide (n≥0)&&(decide (n<(p.nodes.length:Int))&&decide (out.getD n.toNat 0<0))
def visitM (p:bK) (next:Bool):Nat→Int→Int→List Int→Option (List Int)
 | 0,_,_,_=>none
 | f+1,n,size,out=>
  if ov p n out then
   if xu p next (p.nodes.getD n.toNat default) size then k0 (visitM p next f) (decide ((p.nodes.getD n.toNat default).op=9)) size 0 (p.nodes.getD n.toNat default).kids (out.set n.toNat size)
   else none
  else none
def sI (p:bK) (m:gP):Bool:=
 decide (m.kind≥1)&&(decide (m.kind≤4)&&(decide (m.gen≥0)&&(decide (m.gen<(p.cR.length:Int))&&(il (b3 p) m.fact&&decide (kY m.fact≤p.cR.getD m.gen.toNat 0)))))
def sJ (k:Int):Bool:=decide (k=1)||decide (k=4)
def m3 (p:bK):List gP→List Int→Option (List Int)
 | [],out=>some out
 | m::r,out=>if sI p m then (visitM p (sJ m.kind) 12 m.node (p.cR.getD m.gen.toNat 0) out).bind (m3 p r) else none
def qc (p:bK):Bool:=
 decide (p.cR.length≤8)&&(decide (p.methods.length≤16)&&(decide (p.nodes.length≥1)&&(decide (p.nodes.length≤120)&&p.cR.all fun n=>decide (n≥1)&&decide (n≤3))))
def m4 (p:bK):Option (List Int):=
 if nG p&&qc p then
  (m3 p p.methods (t6 p.nodes.length (-1))).bind fun out=>(visitM p false 12 p.main 0 out).bind fun out=>if out.contains (-1) then none else some out
 else none
def fs (p:bK):Bool:=(m4 p).isSome
theorem Kg:∀ (l:List e3) (i:Nat),(∀ c∈l,c.bj.length≤4)→(eQ i l).length≤4*l.length
  | [],_,_=>i0 _
  | c::r,i,h=>by
    have U:=Kg r (i+1) (fun x ab=>h x (g7 _ ab));have ad:=h c i5;rw [eQ,d9,ad',i7];omega
theorem Cu:∀ (l:List e3) (i:Nat),∀ o∈eQ i l,(i:Int)+3≤o∧o<3+(i:Int)+(l.length:Int)
  | [],_,o,h=>by cases h
  | c::r,i,o,h=>by
    rw [eQ] at h;rcases ac7.1 h with h|h
    · obtain ⟨_,rfl⟩:=ar4.1 h
      rw [i7];omega
    · have:=Cu r (i+1) o h
      rw [i7];omega
theorem Fy:∀ {l:List e3} {n m:Int},kZ n l=some m→∀ c∈l,c.bj.length≤4
  | c::r,n,m,h,x,ab=>by
    rw [kZ] at h;split at h
    · rename_i aF
      cases aA:m2 n c.bj with
      | none=>rw [aA] at h;cases h
      | some k=>
        rw [aA] at h;rcases ad4.1 ab with rfl|ab
        · exact aF
        · exact Fy (l:=r) h x ab
    · cases h
theorem Kh:∀ (g:List (List Int)) (i:Nat),ny i g=true→vE i g=true∧∀ l∈g,l.length≤3
  | [],_,_=>⟨rfl,fun l h=>by cases h⟩
  | x::r,i,h=>by
    rw [ny] at h;simp only [f6,g8] at h;obtain ⟨U,ad⟩:=Kh r (i+1) h.2.2;refine ⟨by rw [vE,h.2.1,U];rfl,fun l aB=>?_⟩;rcases ad4.1 aB with rfl|aB
    · exact h.1
    · exact ad l aB
theorem Ki {p:bK} (aF:p.bT.length≤10) {n:Int} (ao:kZ 0 p.bT=some n) (au:lU (gH p)=true):fQ (b3 p):=by
 unfold lU at au;rw [f6] at au;obtain ⟨g1,g2⟩:=Kh _ _ au.2;have aB:(gH p).length=p.bT.length:=f5 _;have U:=Kg p.bT 0 (Fy ao);refine ⟨by show (gH p).length≤60;omega,g2,g1,by show (eQ 0 p.bT).length≤40;omega,fun o ah=>?_⟩;have:=Cu p.bT 0 o ah;show 3≤o∧o<3+((gH p).length:Int);omega
theorem Fz {p:bK} (h:nG p=true):fQ (b3 p):=by
 unfold nG at h;simp only [f6,g8,aj1] at h;exact Ki h.1 h.2.1 h.2.2.1
theorem FA {w:bw} (hw:fQ w):∀ (m:Nat) (f:Nat→Bool) (k:Nat),3+m≤k→m≤w.ps.length→gG w.ps m f k=f k
  | 0,f,k,_,_=>rfl
  | m+1,f,k,aD,hm=>by
    obtain ⟨l,aB⟩:∃ l,w.ps[m]? = some l:=⟨_,f8 ag⟩;rw [gG,FA hw m _ k ag ag,d5,aB,ae7];have:l.contains (k:Int)=false:=by
      rw [ae9];intro h;have:=xq hw aB (af8.1 h);omega
    rw [this,ai5,ak5]
theorem Cv (ps:List (List Int)):∀ (m:Nat) (f g:Nat→Bool),(∀ k,f k=g k)→∀ k,gG ps m f k=gG ps m g k
  | 0,f,g,h,k=>h k
  | m+1,f,g,h,k=>by
    rw [gG,gG];exact Cv ps m _ _ (fun k=>by rw [h,h]) k
theorem FB {cs:List e3} {w:bw} (hw:fQ w) (nm:w.ps=cs.map e3.parents):∀ (m:Nat) (up out:List Int) (s:Int),m≤cs.length→(s∈nF cs m up out↔s∈out∨∃ j,j<m∧gG w.ps m (fun k=>up.contains (k:Int)) (3+j)=true∧s∈(cs.getD j default).bj)
  | 0,up,out,s,_=>by
    rw [nF];constructor
    · exact .inl
    · rintro (h|⟨j,h,_⟩)
      · exact h
      · omega
  | m+1,up,out,s,hm=>by
    have aB:m<cs.length:=by omega
    have ig:w.ps.length=cs.length:=by rw [nm,f5]
    have SJ:w.ps.getD m []=(cs.getD m default).parents:=by
      rw [nm,d5,d5,ad7,f8 aB];rfl
    rw [nF];have eE:((m:Int)+3)=((3+m:Nat):Int):=by omega
    rw [eE];cases hu:up.contains ((3+m:Nat):Int) with
    | true=>
      rw [f9 C,FB hw nm m _ _ s ag];have aF:∀ k,gG w.ps m (fun k=>(up++(cs.getD m default).parents).contains (k:Int)) k=gG w.ps (m+1) (fun k=>up.contains (k:Int)) k:=fun k=>by
        rw [gG];refine Cv _ _ _ _ (fun k=>?_) k;rw [List.contains_append,hu,f4,SJ]
      simp only [aF,ac7];constructor
      · rintro ((h|h)|⟨j,U,ad,al⟩)
        · exact .inl h
        · exact .inr ⟨m,by omega,by rw [gG,FA hw m _ _ (i0 _) ag,hu,Bool.true_or],h⟩
        · exact .inr ⟨j,by omega,ad,al⟩
      · rintro (h|⟨j,U,ad,al⟩)
        · exact .inl (.inl h)
        · rcases af3.1 U with U|rfl
          · exact .inr ⟨j,U,ad,al⟩
          · exact .inl (.inr al)
    | false=>
      rw [f0 bc,FB hw nm m _ _ s ag];have aF:∀ k,gG w.ps (m+1) (fun k=>up.contains (k:Int)) k=gG w.ps m (fun k=>up.contains (k:Int)) k:=fun k=>by
        rw [gG];exact Cv _ _ _ _ (fun k=>by rw [hu,f7,ak5]) k
      simp only [aF];constructor
      · rintro (h|⟨j,U,ad,al⟩)
        · exact .inl h
        · exact .inr ⟨j,by omega,ad,al⟩
      · rintro (h|⟨j,U,ad,al⟩)
        · exact .inl h
        · rcases af3.1 U with U|rfl
          · exact .inr ⟨j,U,ad,al⟩
          · rw [FA hw _ _ _ (i0 _) ag,hu] at ad
            cases ad
theorem Kj:∀ {l:List Int} {n m:Int},m2 n l=some m→m=n+l.length∧∀ s,s∈l↔n≤s∧s<n+l.length
  | [],n,m,h=>by rw [m2] at h;cases h;exact ⟨by simp,fun s=>by simp⟩
  | x::r,n,m,h=>by
    rw [m2] at h;split at h
    · rename_i ab
      subst ab;obtain ⟨U,ad⟩:=Kj h;refine ⟨by rw [i7];omega,fun s=>?_⟩;rw [ad4,ad,i7];omega
    · cases h
theorem Cw:∀ {l:List e3} {i:Nat} {n m:Int},kZ n l=some m→m=n+(eQ i l).length∧∀ (j:Nat) (c:e3),l[j]? = some c→∀ s:Int,s∈c.bj↔n≤s∧(eQ i l)[(s-n).toNat]? = some ((i:Int)+j+3)
  | [],i,n,m,h=>by rw [kZ] at h;cases h;exact ⟨by simp [eQ],fun j c h=>by simp at h⟩
  | x::r,i,n,m,h=>by
    rw [kZ] at h;split at h
    · cases aD:m2 n x.bj with
      | none=>rw [aD] at h;cases h
      | some k=>
        rw [aD,Option.bind_some] at h;obtain ⟨U,ad⟩:=Kj aD;obtain ⟨al,bd⟩:=Cw (i:=i+1) h;refine ⟨by rw [eQ,d9,ad'];push_cast;omega,fun j c aO s=>?_⟩;rw [eQ];cases j with
        | zero=>
          have:x=c:=by simpa using aO
          subst this;rw [ad];constructor
          · intro ao
            refine ⟨ao.1,?_⟩;rw [ad3 tD,ar7,f9 ag];simp
          · rintro ⟨g1,g2⟩
            by_cases ao:s<n+x.bj.length
            · exact ⟨g1,ao⟩
            · rw [ad6 tD] at g2
              have:=Cu r (i+1) _ (d6 g2);omega
        | succ j=>
          rw [bd j c (by simpa using aO)];constructor
          · rintro ⟨g1,g2⟩
            refine ⟨by omega,?_⟩;rw [ad6 tD,ad',show (s-n).toNat-x.bj.length=(s-k).toNat by omega,g2];congr 1;push_cast;omega
          · rintro ⟨g1,g2⟩
            by_cases ao:s<k
            · rw [ad3 tD,ar7,f9 ag] at g2
              have:=Option.some.inj g2;omega
            · rw [ad6 tD,ad',show (s-n).toNat-x.bj.length=(s-k).toNat by omega] at g2
              refine ⟨by omega,g2.trans ?_⟩;congr 1;push_cast;omega
    · cases h
theorem SK {p:bK} {n:Int} (ao:kZ 0 p.bT=some n) (hw:fQ (b3 p)) {i:Nat} (aS:i<p.bT.length) (s:Int) :
  (ou p i).contains s=(decide (s≥0)&&(decide (s<n)&&((eI (b3 p).ps).getD (3+i) 0).testBit ((b3 p).owner.getD s.toNat 0).toNat)):=by
 obtain ⟨U,ad⟩:=Cw (i:=0) ao;have ig:(b3 p).ps.length=p.bT.length:=f5 _;have gh:(b3 p).owner=eQ 0 p.bT:=rfl;rw [ad1,af8];unfold ou ot;rw [List.mem_mergeSort,FB hw C (i+1) _ _ s ag];have aF:∀ k,gG (b3 p).ps (i+1) (fun k=>[(i:Int)+3].contains (k:Int)) k=vF (b3 p) (3+i) k:=fun k=>by
  unfold vF;rw [show 3+i-2=i+1 by omega];refine Cv _ _ _ _ (fun k=>?_) k;rw [ad1,af8,t7,g8];omega
 simp only [aF,f6,g8];rw [gh];constructor
 ·rintro (h|⟨j,aO,an,hm⟩)
  ·cases h
  ·have u9:j<p.bT.length:=by omega
   obtain ⟨c,zA⟩:∃ c,p.bT[j]? = some c:=⟨_,f8 u9⟩;rw [d5,zA,ae7] at hm;obtain ⟨g1,g2⟩:=(ad j c zA s).1 hm;rw [aA5] at g2;have g3:=(ac1.1 g2).1;refine ⟨g1,by omega,?_⟩;rw [show (eQ 0 p.bT).getD s.toNat 0=((0:Nat):Int)+(j:Int)+3 by rw [d5,g2];rfl,← Fw hw ag ag];rw [show (((0:Nat):Int)+(j:Int)+3).toNat=3+j by omega];exact an
 ·rintro ⟨g1,g2,g3⟩
  obtain ⟨o,ah⟩:∃ o,(eQ 0 p.bT)[s.toNat]? = some o:=⟨_,f8 ag⟩;have Kk:=Cu p.bT 0 o (d6 ah);rw [show (eQ 0 p.bT).getD s.toNat 0=o by rw [d5,ah];rfl] at g3;have hle:=xr hw (3+i+1) (3+i) o.toNat ag ag g3;obtain ⟨j,aO⟩:∃ j:Nat,o=3+(j:Int):=⟨(o-3).toNat,by omega⟩;obtain ⟨c,zA⟩:∃ c,p.bT[j]? = some c:=⟨_,f8 ag⟩;refine .inr ⟨j,by omega,?_,?_⟩
  ·rw [Fw hw ag ag,show 3+j=o.toNat by omega]
   exact g3
  ·rw [d5,zA,ae7]
   refine (ad j c zA s).2 ⟨g1,?_⟩;rw [aA5,ah,aO];congr 1;omega
mutual
def nH:aq→Int
 | .mk _ _ _ _ _ ks=>1+j' ks
def j':List aq→Int
 | []=>0
 | x::r=>nH x+j' r
end
mutual
def mw:aq→Int→Int
 | .mk _ _ _ _ _ ks,ft=>ow ks ft 1
def ow:List aq→Int→Int→Int
 | [],_,n=>n
 | x::r,ft,n=>if n≤ft then ow r ft (n+mw x (ft-n)) else n
end
mutual
def mx:aq→Int
 | .mk _ _ _ _ _ ks=>lr 0 ks+1
def lr (m:Int):List aq→Int
 | []=>m
 | x::r=>lr (max m (mx x)) r
end
theorem Kl (f:aq) (m:Int):mw f m=ow f.kids m 1:=by cases f;rw [mw];rfl
theorem SL (f:aq):mx f=lr 0 f.kids+1:=by cases f;rw [mx];rfl
mutual
theorem Cx:∀ f:aq,1≤nH f∧nH f≤(f.size:Int)
  | .mk _ _ p _ _ ks=>by
    have:=tL ks;rw [nH,aq.size];push_cast;omega
theorem tL:∀ l:List aq,0≤j' l∧j' l≤(aq.iC l:Int)
  | []=>by rw [j'];exact ⟨aj4 _,by simp⟩
  | x::r=>by
    have U:=Cx x;have ad:=tL r;rw [j',aq.iC];push_cast;omega
end
mutual
theorem FC:∀ (f:aq) (ft:Int),(nH f≤ft→mw f ft=nH f)∧(nH f>ft→mw f ft>ft)∧mw f ft≤nH f∧1≤mw f ft
  | .mk _ _ _ _ _ ks,ft=>by
    rw [nH,mw];exact Km ks ft 1
theorem Km:∀ (l:List aq) (ft n:Int),(n+j' l≤ft→ow l ft n=n+j' l)∧(n+j' l>ft→ow l ft n>ft)∧ow l ft n≤n+j' l∧n≤ow l ft n
  | [],ft,n=>by rw [ow,j'];omega
  | x::r,ft,n=>by
    have U:=FC x (ft-n);have ad:=Km r ft (n+mw x (ft-n));have al:=Cx x;have bd:=tL r;rw [ow,j'];split<;>omega
end
theorem FD:∀ (l:List aq) (m:Int),m≤lr m l
 | [],m=>by rw [lr];exact aj4 _
 | x::r,m=>by rw [lr];have:=FD r (max m (mx x));omega
theorem Cy:∀ (l:List aq) (m d:Int),lr m l≤d↔m≤d∧∀ x∈l,mx x≤d
  | [],m,d=>by rw [lr];simp
  | x::r,m,d=>by
    rw [lr,Cy r];constructor
    · rintro ⟨U,ad⟩
      refine ⟨by omega,fun y ax=>?_⟩;rcases ad4.1 ax with rfl|ax
      · omega
      · exact ad y ax
    · rintro ⟨U,ad⟩
      exact ⟨by have:=ad x i5;omega,fun y ax=>ad y (g7 _ ax)⟩
mutual
theorem FE:∀ f:aq,1≤mx f∧mx f≤(f.size:Int)
  | .mk _ _ p _ _ ks=>by
    have U:=Cy ks 0 (aq.iC ks:Int);have ad:=FD ks 0;rw [mx,aq.size]
    have:lr 0 ks≤(aq.iC ks:Int):=U.2 ⟨by omega,fun x ab=>by
      have:=Kn ks x ab
      have:=aq.iD ab
      omega⟩
    push_cast;omega
theorem Kn:∀ (l:List aq),∀ x∈l,1≤mx x∧mx x≤(x.size:Int)
  | y::r,x,h=>by
    rcases ad4.1 h with h|h
    · rw [h];exact FE y
    · exact Kn r x h
end
mutual
theorem Ko:∀ (f:aq) (w:bw) (d:Nat) (k:Int),((e0 w d k f).1=true↔nH f≤k∧mx f≤d∧gR w f=true)∧((e0 w d k f).1=true→(e0 w d k f).2=k-nH f)
  | .mk o a p c n ks,w,d,k=>by
    have ao:=tL ks;have av:=FD ks 0;rw [e0,nH,mx,gR];split
    · rename_i h
      simp only [ag9,g8] at h;refine ⟨⟨fun h=>ng,fun ⟨U,ad,_⟩=>by omega⟩,fun h=>ng⟩
    · rename_i h
      simp only [ag9,g8,not_or] at h;have aX:=Kp ks w (d-1) (k-1) ag;have e:lr 0 ks≤((d-1:Nat):Int)↔lr 0 ks+1≤(d:Int):=by omega
      split
      · rename_i aA
        rw [aA,f4];refine ⟨?_,fun h=>by rw [aX.2 h];omega⟩;rw [aX.1];constructor
        · rintro ⟨U,ad,al⟩;exact ⟨by omega,e.1 ad,al⟩
        · rintro ⟨U,ad,al⟩;exact ⟨by omega,e.2 ad,al⟩
      · rename_i aA
        refine ⟨⟨fun h=>ng,fun ⟨_,_,h⟩=>?_⟩,fun h=>ng⟩;rw [f6] at h;exact absurd h.1 aA
theorem Kp:∀ (l:List aq) (w:bw) (d:Nat) (k:Int),0≤k→((gQ w d k l).1=true↔j' l≤k∧lr 0 l≤d∧jH w l=true)∧((gQ w d k l).1=true→(gQ w d k l).2=k-j' l)
  | [],w,d,k,aD=>by
    rw [gQ,j',lr,jH];exact ⟨⟨fun _=>⟨aD,by omega,rfl⟩,fun _=>rfl⟩,fun _=>by simp⟩
  | x::r,w,d,k,aD=>by
    have ab:=Ko x w d k;have aE:=Cx x;have aC:=tL r;rw [gQ,j',jH,Cy];split
    · rename_i h
      obtain ⟨U,ad,al⟩:=ab.1.1 h;have he:=ab.2 h;rw [he];have aX:=Kp r w d (k-nH x) ag;refine ⟨?_,fun h=>by rw [aX.2 h];omega⟩;rw [aX.1,al,f4,Cy];constructor
      · rintro ⟨dm,a2,a3⟩
        refine ⟨by omega,⟨a2.1,fun y ax=>?_⟩,a3⟩;rcases ad4.1 ax with rfl|ax
        · exact ad
        · exact a2.2 y ax
      · rintro ⟨dm,a2,a3⟩
        exact ⟨by omega,⟨a2.1,fun y ax=>a2.2 y (g7 _ ax)⟩,a3⟩
    · rename_i h
      refine ⟨⟨fun h=>ng,fun ⟨dm,a2,a3⟩=>?_⟩,fun h=>ng⟩;rw [f6] at a3;exact absurd (ab.1.2 ⟨by omega,a2.2 x i5,a3.1⟩) h
end
theorem SM (w:bw) (f:aq):(decide (mw f 24≤24)&&(decide (mx f≤12)&&gR w f))=il w f:=by
 have U:=(Ko f w 12 24).1;have ad:=FC f 24;have al:mw f 24≤24↔nH f≤24:=by omega
 unfold il;rw [ad1,U];simp only [f6,g8,al];simp
def bt:Nat:=1099511627776
theorem bC:bt=1099511627776:=rfl
theorem cf {α:Type} {f:α→af} {l:List α} {j:Nat} (h:j<l.length):∃ x,l[j]? = some x∧(l.map f)[j]? = some (f x):=
 ⟨l[j],f8 h,by simp [h]⟩
theorem drop_cons {α:Type} {l:List α} {j:Nat} {x:α} (h:l[j]? = some x):l.drop j=x::l.drop (j+1):=by
 obtain ⟨U,ad⟩:=ac1.1 h;rw [List.drop_eq_getElem_cons U,ad]
theorem eR {α:Type} {l:List α} {j:Nat} (h:l.length≤j):l.drop j=[]:=List.drop_eq_nil_of_le h
theorem js {α:Type} {l:List α} {j:Nat} {x:α} (h:l[j]? = some x):l.take (j+1)=l.take j++[x]:=by
 rw [ak7,h];rfl
theorem re {α:Type} {l:List α} {j:Nat} {x:α} (h:l[j]? = some x):j<l.length:=(ac1.1 h).1
def bb (n:Int):af := .int .i64 n
def bk (l:List Int):af := .ay 1 (l.map bb) .aZ
def dv (g:List (List Int)):af := .ay 1 (g.map bk) .aZ
theorem Kq (l:List Int) (n:Int) (aB:l.length<bt):aU d0 92 [bk l,.int .i64 n] (.int .i64 (match l.findIdx? (· == n) with
  | some i=>(i:Int)
  | none => -1)):=by
 have an:=bC;refine aU.bn aj Tryz.func92 C C fun s I=>?_
 unfold bk;refine hs ?_;refine ae.cl [0,1,7] C I (σ:=Nat) (fun j=>[(8,.int .i64 (j:Int))]) (fun _=>[]) (fun j=>j≤l.length∧∀ i,i<j→l[i]? ≠ some n) (fun j=>l.length-j) 0 ⟨g9 _,fun i aS=>absurd aS (an4 _)⟩ (cI C) a7 ?_;rintro j ⟨aO,aw⟩ I;refine ck ?_;refine ae.cond C (fun az=>?_) (fun a'=>?_);rotate_left;have a':j=l.length:=by
  have:l.length≤j:=by simpa using a'
  omega
 ·have ab:l.findIdx? (· == n)=none:=by
   rw [ag8];intro z bP;obtain ⟨i,aS⟩:=ag7 bP;have U:=re aS;have ad:=aw i ag;simp only [beq_eq_false_iff_ne];intro e;subst e;exact ad aS
  rw [ab];refine eH ?_;exact bA I
 have az:j<l.length:=by simpa using az
 obtain ⟨y,ax,da⟩:=cf (f:=bb) az;unfold bb at da;refine bG ?_;refine ae.cond C (fun aA=>?_) (fun aA=>?_)
 ·have aA:n=y:=by simpa using aA
  subst aA;have ab:l.findIdx? (· == n)=some j:=by
   rw [af2];refine ⟨az,by simpa using (ac1.1 ax).2,fun i aS=>?_⟩;have:=aw i aS;rw [f8 ag] at this;simpa using this
  rw [ab];refine kx ?_;exact bA I
 ·have aA:n≠y:=by simpa using aA
  refine gg ?_;refine bF.mk (j+1) I ⟨az,?_⟩ cC a7 (by show l.length-(j+1)<l.length-j;omega);intro i aS;rcases af3.1 aS with aS|rfl
  ·exact aw i aS
  ·rw [ax];intro e;cases e;exact aA C
theorem Kr (l:List Int) (n:Int):decide ((match l.findIdx? (· == n) with
  | some i=>(i:Int)
  | none => -1)≥0)=l.contains n:=by
 cases h:l.findIdx? (· == n) with
 | none=>
  rw [ag8] at h;have:n∉l:=fun aA=>by have:=h n aA;simp at this
  simp [this]
 | some i=>
  rw [af2] at h;obtain ⟨aS,U,_⟩:=h;have e:l[i]=n:=by simpa using U
  have:n∈l:=by rw [← e];exact ak3 aS
  simp [this]
theorem vH (l:List Int) (n:Int) (aB:l.length<bt):aU d0 43 [bk l,.int .i64 n] (.bool (l.contains n)):=by
 rw [← Kr];refine aU.bn aj Tryz.func43 C C fun s I=>?_
 refine dz ?_;refine aa.dX C C C C C (Kq l n aB) ?_;refine dY ?_;exact bA I
theorem Ks (l:List Int) (n:Int) (aB:l.length<bt):aU d0 218 [bk l,.int .i64 n] (.bool (l.contains n)):=by
 have an:=bC;refine aU.bn aj Tryz.func218 C C fun s I=>?_
 unfold bk;refine hs ?_;refine ae.cl [0,1] C I (σ:=Nat) (fun j=>[(5,.int .i64 (j:Int))]) (fun _=>[]) (fun j=>j≤l.length∧∀ i,i<j→l[i]? ≠ some n) (fun j=>l.length-j) 0 ⟨g9 _,fun i aS=>absurd aS (an4 _)⟩ (cI C) a7 ?_;rintro j ⟨aO,aw⟩ I;refine ck ?_;refine ae.cond C (fun az=>?_) (fun a'=>?_);rotate_left;have a':j=l.length:=by
  have:l.length≤j:=by simpa using a'
  omega
 ·have ab:l.contains n=false:=by
   rw [ae9];intro hm;have hm:n∈l:=by simpa using hm
   obtain ⟨i,aS⟩:=ag7 hm;exact aw i (by have:=re aS;omega) aS
  rw [ab];refine eH ?_;exact bA I
 have az:j<l.length:=by simpa using az
 obtain ⟨y,ax,da⟩:=cf (f:=bb) az;unfold bb at da;refine ej ?_;refine ae.cond C (fun aA=>?_) (fun aA=>?_)
 ·have aA:y=n:=by simpa using aA
  subst aA;have ab:l.contains y=true:=by simpa using d6 ax
  rw [ab];refine kx ?_;exact bA I
 ·have aA:y≠n:=by simpa using aA
  refine gg ?_;refine bF.mk (j+1) I ⟨az,?_⟩ cC a7 (by show l.length-(j+1)<l.length-j;omega);intro i aS;rcases af3.1 aS with aS|rfl
  ·exact aw i aS
  ·rw [ax];intro e;cases e;exact aA C
theorem tM (a b:List Int) (aB:a.length<bt) (xw:b.length<bt):aU d0 37 [bk a,bk b] (.bool (a==b)):=by
 have an:=bC;refine aU.bn aj Tryz.func37 C C fun s I=>?_
 unfold bk;refine ck ?_;refine ae.cond C (fun h=>?_) (fun h=>?_)
 ·have cp:(a==b)=false:=by
   rw [beq_eq_false_iff_ne];intro e;simp [e] at h
  rw [cp];refine gO ?_;exact bA I
 ·have eZ:a.length=b.length:=by simp at h;omega
  refine j5 ?_;refine ae.cl [0,1,12] C I (σ:=Nat) (fun j=>[(13,.int .i64 (j:Int))]) (fun _=>[]) (fun j=>j≤a.length∧(a==b)=(a.drop j==b.drop j)) (fun j=>a.length-j) 0 ⟨g9 _,rfl⟩ (cI C) a7 ?_;rintro j ⟨aO,aw⟩ I;refine ck ?_;refine ae.cond C (fun az=>?_) (fun a'=>?_);rotate_left;have a':j=a.length:=by
   have:a.length≤j:=by simpa using a'
   omega
  ·rw [eR ag,eR ag] at aw
   rw [aw];refine eH ?_;exact bA I
  have az:j<a.length:=by simpa using az
  obtain ⟨x,ab,ct⟩:=cf (f:=bb) az;obtain ⟨y,ax,da⟩:=cf (f:=bb) (by omega:j<b.length);rw [drop_cons ab,drop_cons ax,ap8] at aw;refine j5 ?_;refine ae.qZ aj mixed C (ba.run C ?_);refine ba.idx 2 j C C C C C C C C C C C C C ct C ?_;refine ba.idx 6 j C C C C C C C C C C C C C da C ?_;refine ba.run C (ba.done C ?_);refine ae.cond C (fun aA=>?_) (fun aA=>?_)
  ·have aA:x≠y:=by simpa using aA
   rw [aw,beq_false_of_ne aA];refine kx ?_;exact bA I
  ·have aA:x=y:=by simpa using aA
   subst aA;rw [beq_self_eq_true,f4] at aw;refine gg ?_;refine bF.mk (j+1) I ⟨az,aw⟩ cC a7 zl
theorem zB (a b:List Int) (aB:a.length<bt) (xw:b.length<bt):aU d0 24 [bk a,bk b] (.bool (a==b)):=by
 have an:=bC;refine aU.bn aj Tryz.func24 C C fun s I=>?_
 unfold bk;refine ck ?_;refine ae.cond C (fun h=>?_) (fun h=>?_)
 ·have cp:(a==b)=false:=by
   rw [beq_eq_false_iff_ne];intro e;simp [e] at h
  rw [cp];refine gO ?_;exact bA I
 ·have eZ:a.length=b.length:=by simp at h;omega
  refine j5 ?_;refine ae.cl [0,1,12] C I (σ:=Nat) (fun j=>[(13,.int .i64 (j:Int))]) (fun _=>[]) (fun j=>j≤a.length∧(a==b)=(a.drop j==b.drop j)) (fun j=>a.length-j) 0 ⟨g9 _,rfl⟩ (cI C) a7 ?_;rintro j ⟨aO,aw⟩ I;refine ck ?_;refine ae.cond C (fun az=>?_) (fun a'=>?_);rotate_left;have a':j=a.length:=by
   have:a.length≤j:=by simpa using a'
   omega
  ·rw [eR ag,eR ag] at aw
   rw [aw];refine eH ?_;exact bA I
  have az:j<a.length:=by simpa using az
  obtain ⟨x,ab,ct⟩:=cf (f:=bb) az;obtain ⟨y,ax,da⟩:=cf (f:=bb) (by omega:j<b.length);rw [drop_cons ab,drop_cons ax,ap8] at aw;refine j5 ?_;refine ae.qZ aj mixed C (ba.run C ?_);refine ba.idx 2 j C C C C C C C C C C C C C ct C ?_;refine ba.idx 6 j C C C C C C C C C C C C C da C ?_;refine ba.run C (ba.done C ?_);refine ae.cond C (fun aA=>?_) (fun aA=>?_)
  ·have aA:x≠y:=by simpa using aA
   rw [aw,beq_false_of_ne aA];refine kx ?_;exact bA I
  ·have aA:x=y:=by simpa using aA
   subst aA;rw [beq_self_eq_true,f4] at aw;refine gg ?_;refine bF.mk (j+1) I ⟨az,aw⟩ cC a7 zl
theorem Kt {α:Type} (q:α→Bool) {l:List α} {j:Nat} {x:α} (h:l[j]? = some x):(l.take (j+1)).filter q=(l.take j).filter q++(if q x then [x] else []):=by
 rw [js h,List.filter_append];congr 1;cases bp:q x<;>simp [bp]
theorem Ku (fv:af) (q:Int→Bool) (bp:∀ y,ee d0 fv [.int .i64 y] (.bool (q y))) (l:List Int) (aB:l.length<bt):aU d0 307 [bk l,fv] (bk (l.filter q)):=by
 have an:=bC;obtain ⟨xs,ek⟩:∃ xs:Nat→List af,∀ j,xs j=((l.take j).filter q).map bb:=⟨_,fun _=>rfl⟩;have bo:xs 0=[]:=by rw [ek];rfl
 have hN:∀ j,(xs j).length≤l.length:=fun j=>by
  rw [ek,f5];exact al5 (aj0 _ _) (ai1 _ _)
 refine aU.bn aj Tryz.func307 C C fun s I=>?_
 unfold bk;refine hs ?_;refine ae.ik I 3 1 0 fun I=>?_
 refine ae.cl [1,8,9] C I (σ:=Nat×bN) (fun q=>[(10,.int .i64 (q.1:Int)),(5,.ay 1 (xs q.1) q.2)]) (fun q=>[(q.2,.row 3 1 (xs q.1).length)]) (fun q=>q.1≤l.length) (fun q=>l.length-q.1) (0,.nil) (g9 _) ⟨⟨_,rfl,aM⟩,⟨_,rfl,by rw [bo];exact aR.nil hh⟩,trivial⟩ (by rw [bo];exact aH.ez _) ?_;rintro ⟨j,own⟩ aO I;simp only at aO I ⊢;refine ck ?_;refine ae.cond C (fun az=>?_) (fun a'=>?_);rotate_left;have a':j=l.length:=by
  have:l.length≤j:=by simpa using a'
  omega
 ·subst a'
  have he:xs l.length=(l.filter q).map bb:=by rw [ek,ac']
  rw [he];refine eH ?_;exact Fin.cL I C aR.aZ
 have az:j<l.length:=by simpa using az
 obtain ⟨y,ax,da⟩:=cf (f:=bb) az;have ao:=ek (j+1);rw [Kt q ax,ac2,← ek] at ao;have nq:=hN j;have SN:=bp y;unfold bb at da;refine ej ?_;refine aa.ll C C C C C C SN ?_;cases ar:q y with
 | true=>
  have ao:xs (j+1)=xs j++[.int .i64 y]:=by rw [ao,ar];rfl
  have dj:(xs (j+1)).length=(xs j).length+1:=by rw [ao];simp
  refine bG ?_;refine aa.gq aj I C C C C C C C ef C C C C C C C C aV h7 kX ag (fun b2 I=>?_);refine hI ?_;refine bF.mk (j+1,.own b2) I az o9 (by show aH _ [(_,.row _ _ (xs (j+1)).length)] _;rw [dj];exact aH.ez _) (by show l.length-(j+1)<l.length-j;omega)
 | false=>
  have ao:xs (j+1)=xs j:=by rw [ao,ar];simp
  refine bG ?_;refine bF.mk (j+1,own) I az o9 (by show aH _ [(_,.row _ _ (xs (j+1)).length)] _;rw [ao];exact aH.ez _) (by show l.length-(j+1)<l.length-j;omega)
theorem SO (y:Int):ee d0 (.func 316 [] []) [.int .i64 y] (.bool (y != 0)):=by
 refine ee.fa (first:=[]) (cap:=[]) ?_;refine aU.bn aj Tryz.func316 C C fun s I=>?_
 refine gO ?_;exact bA I
theorem SP (l:List Int) (aB:l.length<bt):aU d0 306 [bk l] (bk (fh 0 l)):=by
 refine aU.bn aj Tryz.func306 C C fun s I=>?_
 refine dz ?_;refine aa.dX C C C C C (Ku _ _ SO l aB) ?_;refine dY ?_;exact bA I
theorem FF (l:List Int) (n:Int) (aB:l.length<bt):aU d0 272 [bk l,.int .i64 n] (bk (fh n l)):=by
 have an:=bC;obtain ⟨xs,ek⟩:∃ xs:Nat→List af,∀ j,xs j=(fh n (l.take j)).map bb:=⟨_,fun _=>rfl⟩;have bo:xs 0=[]:=by rw [ek];rfl
 have hN:∀ j,(xs j).length≤l.length:=fun j=>by
  rw [ek,f5];exact al5 (xm _ _) (ai1 _ _)
 refine aU.bn aj Tryz.func272 C C fun s I=>?_
 unfold bk;refine hs ?_;refine ae.ik I 3 1 0 fun I=>?_
 refine ae.cl [0,1] C I (σ:=Nat×bN) (fun q=>[(6,.int .i64 (q.1:Int)),(5,.ay 1 (xs q.1) q.2)]) (fun q=>[(q.2,.row 3 1 (xs q.1).length)]) (fun q=>q.1≤l.length) (fun q=>l.length-q.1) (0,.nil) (g9 _) ⟨⟨_,rfl,aM⟩,⟨_,rfl,by rw [bo];exact aR.nil hh⟩,trivial⟩ (by rw [bo];exact aH.ez _) ?_;rintro ⟨j,own⟩ aO I;simp only at aO I ⊢;refine ck ?_;refine ae.cond C (fun az=>?_) (fun a'=>?_);rotate_left;have a':j=l.length:=by
  have:l.length≤j:=by simpa using a'
  omega
 ·subst a'
  have he:xs l.length=(fh n l).map bb:=by rw [ek,ac']
  rw [he];refine eH ?_;exact Fin.cL I C aR.aZ
 have az:j<l.length:=by simpa using az
 obtain ⟨y,ax,da⟩:=cf (f:=bb) az;have ao:=ek (j+1);unfold fh at ao;rw [Kt _ ax,ac2] at ao;have ao:xs (j+1)=xs j++List.map bb (if y != n then [y] else []):=by rw [ao,ek];rfl
 have nq:=hN j;unfold bb at da;refine ej ?_;refine ae.cond C (fun ar=>?_) (fun ar=>?_)
 ·have ar:(y != n)=true:=by simpa using ar
  have ao:xs (j+1)=xs j++[.int .i64 y]:=by rw [ao,ar];rfl
  have dj:(xs (j+1)).length=(xs j).length+1:=by rw [ao];simp
  refine ej ?_;refine aa.gq aj I C C C C C C C ef C C C C C C C C aV h7 kX ag (fun b2 I=>?_);refine hI ?_;refine bF.mk (j+1,.own b2) I az o9 (by show aH _ [(_,.row _ _ (xs (j+1)).length)] _;rw [dj];exact aH.ez _) (by show l.length-(j+1)<l.length-j;omega)
 ·have ar:(y != n)=false:=by simpa using ar
  have ao:xs (j+1)=xs j:=by rw [ao,ar];simp
  refine gg ?_;refine bF.mk (j+1,own) I az o9 (by show aH _ [(_,.row _ _ (xs (j+1)).length)] _;rw [ao];exact aH.ez _) (by show l.length-(j+1)<l.length-j;omega)
theorem Kv (g:List (List Int)) (au:g.length<bt):aU d0 274 [dv g] (.bool (lU g)):=by
 have an:=bC;refine aU.bn aj Tryz.func274 C C fun s I=>?_
 unfold dv;unfold lU;refine ck ?_;refine ae.cond C (fun h=>?_) (fun h=>?_)
 ·have U:decide (g.length≤16)=false:=by simp at h ⊢;omega
  rw [U];refine gO ?_;exact bA I
 have U:decide (g.length≤16)=true:=by simp at h ⊢;omega
 have nj:g.length≤16:=ah1 U;rw [U,f4];refine j5 ?_;refine ae.cl [10,11] C I (σ:=Nat) (fun j=>[(12,.int .i64 (j:Int))]) (fun _=>[]) (fun j=>j≤g.length∧ny 0 g=ny j (g.drop j)) (fun j=>g.length-j) 0 ⟨g9 _,rfl⟩ (cI C) a7 ?_;rintro j ⟨aO,aw⟩ I;refine ck ?_;refine ae.cond C (fun az=>?_) (fun a'=>?_);rotate_left;have a':j=g.length:=by
  have:g.length≤j:=by simpa using a'
  omega
 ·rw [eR ag,ny] at aw
  rw [aw];refine eH ?_;exact bA I
 have az:j<g.length:=by simpa using az
 obtain ⟨l,ax,da⟩:=cf (f:=bk) az;rw [drop_cons ax,ny] at aw;unfold bk at da;refine bG ?_;refine ae.cond C (fun h=>?_) (fun h=>?_)
 ·have ad:decide (l.length≤3)=false:=by simp at h ⊢;omega
  rw [aw,ad];refine kx ?_;exact bA I
 have ad:decide (l.length≤3)=true:=by simp at h ⊢;omega
 have nk:l.length≤3:=ah1 ad;rw [ad,f4] at aw;refine j5 ?_;refine ae.cl [3,4,10,11,12,20,21] C I (σ:=Nat) (fun k=>[(22,.int .i64 (k:Int))]) (fun _=>[]) (fun k=>k≤l.length∧lT 3 j [] l=lT 3 j (l.take k) (l.drop k)) (fun k=>l.length-k) 0 ⟨g9 _,rfl⟩ (cI C) a7 ?_;rintro k ⟨aD,bm⟩ I;refine ck ?_;refine ae.cond C (fun cU=>?_) (fun et=>?_);rotate_left
 ·have et:l.length≤k:=by simpa using et
  rw [eR et,lT] at bm;rw [bm,f4] at aw;refine bG ?_;refine bF.mk (j+1) I ⟨az,aw⟩ cC a7 zm
 have cU:k<l.length:=by simpa using cU
 obtain ⟨c,aF,my⟩:=cf (f:=bb) cU;rw [drop_cons aF,lT] at bm;rw [bm] at aw;unfold bb at my;have w:aa' .i64 (3+(j:Int))=3+(j:Int):=er ag ag;refine ej ?_;by_cases al:c<3
 ·rw [H1 (show ¬ c≥3 by omega),f7,f7] at aw
  refine aa.dW 29 C (i6 al) ?_;refine fB ?_;rw [aw];exact bA I
 rw [i6 (show c≥3 by omega),f4] at aw bm;refine aa.dc 29 C (H1 al) ?_;refine dD ?_;by_cases bd:c≥3+(j:Int)
 ·rw [H1 (show ¬ c<3+(j:Int) by omega),f7] at aw
  refine aa.dW 35 C (by rw [w];exact i6 bd) ?_;refine fB ?_;rw [aw];exact bA I
 rw [i6 (show c<3+(j:Int) by omega),f4] at aw bm;refine aa.dc 35 C (by rw [w];exact H1 bd) ?_;have hY:=vH (l.take k) c (by have:=ai1 k l;omega);unfold bk at hY;rw [ap0] at hY;refine dD ?_;refine aa.slice aj 0 k C C C C C C C C (.inr C) (.inl ⟨rfl,rfl⟩) (.inr ⟨_,_,rfl,rfl⟩) (.inl ⟨rfl,rfl⟩) (g9 _) (by simpa using aD) ?_;rw [aj'];refine dD ?_;refine aa.dX C C C C C hY ?_;cases bB:(l.take k).contains c with
 | true=>
  rw [bB,ah7,f7] at aw;refine fB ?_;rw [aw];exact bA I
 | false=>
  rw [bB,ah3,f4,← js aF] at aw bm;refine bG ?_;exact bF.mk (k+1) I ⟨cU,by rw [bm]⟩ cC a7 (by show l.length-(k+1)<l.length-k;omega)
theorem SQ (g:List (List Int)) (au:g.length<bt):aU d0 180 [dv g] (.bool (lU g)):=by
 have an:=bC;refine aU.bn aj Tryz.func180 C C fun s I=>?_
 unfold dv;unfold lU;refine ck ?_;refine ae.cond C (fun h=>?_) (fun h=>?_)
 ·have U:decide (g.length≤16)=false:=by simp at h ⊢;omega
  rw [U];refine gO ?_;exact bA I
 have U:decide (g.length≤16)=true:=by simp at h ⊢;omega
 have nj:g.length≤16:=ah1 U;rw [U,f4];refine j5 ?_;refine ae.cl [0] C I (σ:=Nat) (fun j=>[(3,.int .i64 (j:Int))]) (fun _=>[]) (fun j=>j≤g.length∧ny 0 g=ny j (g.drop j)) (fun j=>g.length-j) 0 ⟨g9 _,rfl⟩ (cI C) a7 ?_;rintro j ⟨aO,aw⟩ I;refine ck ?_;refine ae.cond C (fun az=>?_) (fun a'=>?_);rotate_left;have a':j=g.length:=by
  have:g.length≤j:=by simpa using a'
  omega
 ·rw [eR ag,ny] at aw
  rw [aw];refine eH ?_;exact bA I
 have az:j<g.length:=by simpa using az
 obtain ⟨l,ax,da⟩:=cf (f:=bk) az;rw [drop_cons ax,ny] at aw;unfold bk at da;refine ej ?_;refine ae.cond C (fun h=>?_) (fun h=>?_)
 ·have ad:decide (l.length≤3)=false:=by simp at h ⊢;omega
  rw [aw,ad];refine kx ?_;exact bA I
 have ad:decide (l.length≤3)=true:=by simp at h ⊢;omega
 have nk:l.length≤3:=ah1 ad;rw [ad,f4] at aw;refine j5 ?_;refine ae.cl [0,3] C I (σ:=Nat) (fun k=>[(4,.int .i64 (k:Int))]) (fun _=>[]) (fun k=>k≤l.length∧lT 3 j [] l=lT 3 j (l.take k) (l.drop k)) (fun k=>l.length-k) 0 ⟨g9 _,rfl⟩ (cI C) a7 ?_;rintro k ⟨aD,bm⟩ I;refine ej ?_;refine ae.cond C (fun cU=>?_) (fun et=>?_);rotate_left
 ·have et:l.length≤k:=by simpa using et
  rw [eR et,lT] at bm;rw [bm,f4] at aw;refine bG ?_;refine bF.mk (j+1) I ⟨az,aw⟩ cC a7 zm
 have cU:k<l.length:=by simpa using cU
 obtain ⟨c,aF,my⟩:=cf (f:=bb) cU;rw [drop_cons aF,lT] at bm;rw [bm] at aw;have hY:=Ks (l.take k) c (by have:=ai1 k l;omega);unfold bk at hY;rw [ap0] at hY;unfold bb at my;have w:aa' .i64 (3+(j:Int))=3+(j:Int):=er ag ag;refine j5 ?_;refine ae.qZ aj mixed C (ba.runs (is:=[0,1,4]) C ?_);refine ba.idx 2 j C C C C C C C C C C C C C da C ?_;refine ba.runs (is:=[3]) C ?_;refine ba.idx 5 k C C C C C C C C C C C C C my C ?_;refine ba.runs (is:=[6,7,8]) C ?_;by_cases al:c<3
 ·rw [H1 (show ¬ c≥3 by omega),f7,f7] at aw
  refine ba.dW 37 C (i6 al) ?_;refine ba.run C (ba.done C ?_);refine fB ?_;rw [aw];exact bA I
 rw [i6 (show c≥3 by omega),f4] at aw bm;refine ba.dc 37 C (H1 al) ?_;refine ba.runs (is:=[9,10,13,16,17]) C ?_;refine ba.idx 11 j C C C C C C C C C C C C C da C ?_;refine ba.runs (is:=[12]) C ?_;refine ba.idx 14 k C C C C C C C C C C C C C my C ?_;refine ba.runs (is:=[15,18,19,20]) C ?_;by_cases bd:c≥3+(j:Int)
 ·rw [H1 (show ¬ c<3+(j:Int) by omega),f7] at aw
  refine ba.dW 49 C (by rw [w];exact i6 bd) ?_;refine ba.run C (ba.done C ?_);refine fB ?_;rw [aw];exact bA I
 rw [i6 (show c<3+(j:Int) by omega),f4] at aw bm;refine ba.dc 49 C (by rw [w];exact H1 bd) ?_;refine ba.run C ?_;refine ba.idx 23 j C C C C C C C C C C C C C da C ?_;refine ba.idx 29 j C C C C C C C C C C C C C da C ?_;refine ba.run C ?_;refine ba.idx 32 k C C C C C C C C C C C C C my C ?_;refine ba.slice 26 0 k C C C C C C C C C C (.inr C) (.inl ⟨rfl,rfl⟩) (.inr ⟨_,_,rfl,rfl⟩) (.inl ⟨rfl,rfl⟩) (g9 _) (by simpa using aD) ?_;rw [aj'];refine ba.run C ?_;refine ba.zj (i:=34) C C C C C C C hY ?_;refine ba.run C ?_;refine ba.done C ?_;cases bB:(l.take k).contains c with
 | true=>
  rw [bB,ah7,f7] at aw;refine fB ?_;rw [aw];exact bA I
 | false=>
  rw [bB,ah3,f4,← js aF] at aw bm;refine bG ?_;exact bF.mk (k+1) I ⟨cU,by rw [bm]⟩ cC a7 (by show l.length-(k+1)<l.length-k;omega)
theorem SR (all:List (List Int)) (c:Int) (aB:all.length<bt) (a8:∀ l∈all,l.length<bt):aU d0 273 [dv all,.int .i64 c] (.bool (free all c)):=by
 have an:=bC;refine aU.bn aj Tryz.func273 C C fun s I=>?_
 unfold dv;refine hs ?_;refine ae.cl [0,1] C I (σ:=Nat) (fun j=>[(5,.int .i64 (j:Int))]) (fun _=>[]) (fun j=>j≤all.length∧free all c=free (all.drop j) c) (fun j=>all.length-j) 0 ⟨g9 _,rfl⟩ (cI C) a7 ?_;rintro j ⟨aO,aw⟩ I;refine ck ?_;refine ae.cond C (fun az=>?_) (fun a'=>?_);rotate_left;have a':j=all.length:=by
  have:all.length≤j:=by simpa using a'
  omega
 ·rw [eR ag] at aw
  rw [aw];refine eH ?_;exact bA I
 have az:j<all.length:=by simpa using az
 obtain ⟨l,ax,da⟩:=cf (f:=bk) az;rw [drop_cons ax] at aw;have qd:=a8 l (d6 ax);have aw:free all c=(!(l.drop 1).contains c&&free (all.drop (j+1)) c):=aw;have hY:=Ks (l.drop 1) c cO;unfold bk at hY da;rw [List.map_drop] at hY;refine ej ?_;cases l with
 | nil=>
  refine aa.dc 18 C C ?_;refine bG ?_;refine bF.mk (j+1) I ⟨az,aw⟩ cC a7 (by show all.length-(j+1)<all.length-j;omega)
 | cons x r=>
  refine aa.dW 18 C bc ?_;refine ej ?_;refine aa.slice aj 1 ((x::r).map bb).length C C C C C C C C (.inr C) (.inr ⟨_,_,rfl,rfl⟩) (.inl ⟨rfl,rfl,rfl⟩) (.inl ⟨rfl,rfl⟩) bc (i0 _) ?_;rw [ac'];refine dD ?_;refine aa.dX C C C C C hY ?_;cases bB:((x::r).drop 1).contains c with
  | true=>
   rw [bB,ah7,f7] at aw;rw [aw];refine fB ?_;exact bA I
  | false=>
   rw [bB,ah3,f4] at aw;refine bG ?_;refine bF.mk (j+1) I ⟨az,aw⟩ cC a7 (by show all.length-(j+1)<all.length-j;omega)
structure qe (n b:Nat) (all:List (List Int)):Prop where
 len:all.length≤n
 each:∀ l∈all,l.length≤b∧∀ c∈l,0≤c
theorem qe.fh {n b:Nat} {all:List (List Int)} (h:qe n b all) (c:Int):qe n b (all.map (fh c)):=by
 refine ⟨by rw [f5];exact h.len,fun l aB=>?_⟩;obtain ⟨kT,U,rfl⟩:=ad2.1 aB;obtain ⟨ad,al⟩:=h.each kT U;exact ⟨al5 (xm _ _) ad,fun c aF=>al c (af4.1 aF).1⟩
theorem Cz {n b:Nat} {all:List (List Int)} (h:qe n b all):total all≤n*b:=by
 obtain ⟨U,ad⟩:=h;have:total all≤all.length*b:=by
  clear U
  induction all with
  | nil=>simp [total]
  | cons l r aX=>
   have al:=(ad l i5).1;have bd:=aX (fun x ab=>ad x (g7 _ ab));have bB:total (l::r)=l.length+total r:=rfl;rw [bB,i7,Nat.add_mul];omega
 exact al5 this (ak2 _ U)
theorem Kw {all l:List (List Int)} {j:Nat} (h:l[j]? = some []):pick all (l.drop j)=pick all (l.drop (j+1)):=by
 rw [drop_cons h];rfl
theorem Kx {all l:List (List Int)} {j:Nat} {c:Int} {r:List Int} (h:l[j]? = some (c::r)):pick all (l.drop j)=if free all c then some c else pick all (l.drop (j+1)):=by
 rw [drop_cons h];rfl
theorem SS (n b:Nat) (jB:n<1000∧b<1000) (all:List (List Int)) (hm:qe n b all):aU d0 252 [dv all] (.cg [bk (merged all).1,.bool (merged all).2]):=by
 have an:=bC;refine aU.bn aj Tryz.func252 C C fun s I=>?_
 unfold dv;have xx:total all≤n*b:=Cz hm;have SU:n*b≤1000*1000:=Nat.mul_le_mul ag ag;refine hs ?_;refine ae.ik I 3 1 0 fun I=>?_
 refine ae.cl [] C I (σ:=Nat×List (List Int)×List Int×bN) (fun q=>[(0,.ay 1 (q.2.1.map bk) .aZ),(4,.ay 1 (q.2.2.1.map bb) q.2.2.2)]) (fun q=>[(q.2.2.2,.row 3 1 q.2.2.1.length)])
  (fun q=>merge q.1 q.2.1 q.2.2.1=merged all∧total q.2.1<q.1∧qe n b q.2.1∧q.2.2.1.length+total q.2.1≤total all) (fun q=>q.1) (total all+1,all,[],.nil) ⟨rfl,ak' _,hm,by simp⟩ ⟨⟨_,rfl,aM⟩,⟨_,rfl,aR.nil hh⟩,trivial⟩ (aH.ez _) ?_
 rintro ⟨k,cur,acc,own⟩ ⟨dQ,hv,hm,tw⟩ I;simp only at dQ hv hm tw I ⊢;have cu:=hm.len;refine hs ?_;refine ae.cl [0,4] C I (σ:=Nat×Int×Bool) (fun z=>[(5,.int .i64 z.2.1),(6,.bool z.2.2),(7,.int .i64 (z.1:Int))]) (fun _=>[(own,.row 3 1 acc.length)])
  (fun z=>z.1≤cur.length∧((z.2.1 = -1∧pick cur cur=pick cur (cur.drop z.1)∧(!z.2.2)=(cur.take z.1).all an2)∨(0≤z.2.1∧pick cur cur=some z.2.1))) (fun z=>cur.length-z.1+if z.2.1<0 then 1 else 0) (0,-1,false) ⟨g9 _,.inl ⟨rfl,rfl,rfl⟩⟩ (cI C) (aH.ez _) ?_
 rintro ⟨j,gd,FG⟩ ⟨aO,aw⟩ I;simp only at aO aw I ⊢;refine j6 ?_;by_cases az:j<cur.length
 ·refine aa.dW 14 C (by simpa using az) ?_
  refine ga ?_;refine ae.cond C (fun aA=>?_) (fun aA=>?_)
  ·have aA:gd<0:=ah1 aA
   obtain ⟨rfl,aw,im⟩:gd = -1∧_:=by
    rcases aw with h|h
    ·exact h
    ·omega
   obtain ⟨l,ax,da⟩:=cf (f:=bk) az;have Ky:=hm.each l (d6 ax);have EV:=fun c=>SR cur c ag (fun l aB=>by have:=(hm.each l aB).1;omega)
   unfold dv at EV;unfold bk at da;have zC:(cur.take (j+1)).all an2=((cur.take j).all an2&&l.isEmpty):=by rw [js ax,List.all_append];simp
   refine ej ?_;cases l with
   | nil=>
    rw [Kw ax] at aw;refine ae.gA C ?_;refine gg ?_;exact bF.mk (j+1,-1,FG) I ⟨az,.inl ⟨rfl,aw,by rw [zC,← im];simp⟩⟩ cC (aH.ez _) (by show cur.length-(j+1)+1<cur.length-j+1;omega)
   | cons c r=>
    rw [Kx ax] at aw;refine ae.cond C (fun _=>?_) (fun h=>absurd h bc);have Kz:((c::r).map bb)[0]? = some (.int .i64 c):=rfl;refine bG ?_;refine aa.dX C C C C C (EV c) ?_;cases o0:free cur c with
    | true=>
     rw [o0,f9 C] at aw;have Br:=Ky.2 c i5;refine bG ?_;exact bF.mk (j+1,c,true) I ⟨az,.inr ⟨Br,aw⟩⟩ cC (aH.ez _) (by show cur.length-(j+1)+(if c<0 then 1 else 0)<cur.length-j+1;split<;>omega)
    | false=>
     rw [o0,f0 bc] at aw;refine bG ?_;exact bF.mk (j+1,-1,true) I ⟨az,.inl ⟨rfl,aw,by rw [zC];simp⟩⟩ cC (aH.ez _) (by show cur.length-(j+1)+1<cur.length-j+1;omega)
  ·have aA:¬ gd<0:=of_decide_eq_false aA
   obtain ⟨xy,vI⟩:0≤gd∧pick cur cur=some gd:=by
    rcases aw with h|h
    ·omega
    ·exact h
   have rf:¬ gd<0:=by omega
   refine eH ?_;refine ae.cond C (fun h=>absurd (ah1 h) rf) (fun _=>?_);cases k with
   | zero=>omega
   | succ k=>
   have KA:=Ck (tI vI);rw [merge,vI] at dQ;simp only at dQ;refine ej ?_;refine aa.gq aj I C C C C C C C ef C C C C C C C C aV h7 kX ag (fun b2 I=>?_);refine bG ?_;obtain ⟨xs,ek⟩:∃ xs:Nat→List af,∀ j,xs j=((cur.take j).map (fh gd)).map bk:=⟨_,fun _=>rfl⟩;have bo:xs 0=[]:=by rw [ek];rfl
   have hN:∀ j,(xs j).length≤cur.length:=fun j=>by
    rw [ek,f5,f5];exact ai1 _ _
   refine ae.ik I 23 1 0 fun I=>?_
   refine ae.cl [0,4,5] C I (σ:=Nat×bN) (fun q=>[(9,.int .i64 (q.1:Int)),(8,.ay 1 (xs q.1) q.2)]) (fun q=>[(q.2,.row 23 1 (xs q.1).length),(.own b2,.row 3 1 (acc.length+1))]) (fun q=>q.1≤cur.length) (fun q=>cur.length-q.1) (0,.nil) (g9 _) ⟨⟨_,rfl,aM⟩,⟨_,rfl,by rw [bo];exact aR.nil hh⟩,trivial⟩ Fa ?_;rintro ⟨i,tN⟩ aS I;simp only at aS I ⊢;refine ck ?_;refine ae.cond C (fun k1=>?_) (fun lu=>?_)
   ·have k1:i<cur.length:=by simpa using k1
    obtain ⟨l,ax,da⟩:=cf (f:=bk) k1;have ao:=ek (i+1);rw [js ax,ac2,ac2,← ek] at ao;have ao:xs (i+1)=xs i++[.ay 1 ((fh gd l).map bb) .aZ]:=ao;have dj:(xs (i+1)).length=(xs i).length+1:=by rw [ao];simp
    have nq:=hN i;have hw:=FF l gd (by have:=(hm.each l (d6 ax)).1;omega);unfold bk at da hw;refine ej ?_;refine aa.dX C C C C C hw ?_;refine dD ?_;refine aa.gq aj I C C C C C C C ef C C C C C C C C aV h7 pa ag (fun eJ I=>?_);refine hI ?_;exact bF.mk (i+1,.own eJ) I k1 o9 (by show aH _ [(_,.row _ _ (xs (i+1)).length),_] _;rw [dj];exact aH.ez _) Ff
   ·have lu:i=cur.length:=by
     have:cur.length≤i:=by simpa using lu
     omega
    subst lu;have he:xs cur.length=(cur.map (fh gd)).map bk:=by rw [ek,ac']
    rw [he] at I ⊢;refine bG ?_;exact bF.mk (k,cur.map (fh gd),acc++[gd],.own b2) I ⟨dQ,by show total (cur.map (fh gd))<k;omega,hm.fh gd,by show (acc++[gd]).length+total (cur.map (fh gd))≤total all;rw [d9,ac8];omega⟩ ⟨⟨_,rfl,aR.aZ⟩,⟨_,rfl,aR.of_eq (by simp [bb])⟩,trivial⟩ (by show aH _ [(_,.row _ _ (acc++[gd]).length)] _;rw [d9,ac8];exact (aH.ez _).there) (by show k<k+1;omega)
 ·refine aa.dc 14 C (by simpa using az) ?_
  have a':j=cur.length:=by omega
  rcases aw with ⟨rfl,aw,im⟩|⟨xy,vI⟩
  ·rw [eR ag] at aw
   rw [a',ac'] at im;cases k with
   | zero=>omega
   | succ k=>
    rw [merge,aw] at dQ;have dQ:(acc,cur.all an2)=merged all:=dQ;rw [← dQ,← im];refine bG ?_;exact Fin.cL I C (aR.cg (.cons aR.aZ (.one aM)))
  ·have rf:¬ gd<0:=by omega
   refine bG ?_;refine ae.cond C (fun h=>absurd (ah1 h) rf) (fun _=>?_);cases k with
   | zero=>omega
   | succ k=>
   have KA:=Ck (tI vI);rw [merge,vI] at dQ;simp only at dQ;refine ej ?_;refine aa.gq aj I C C C C C C C ef C C C C C C C C aV h7 kX ag (fun b2 I=>?_);refine bG ?_;obtain ⟨xs,ek⟩:∃ xs:Nat→List af,∀ j,xs j=((cur.take j).map (fh gd)).map bk:=⟨_,fun _=>rfl⟩;have bo:xs 0=[]:=by rw [ek];rfl
   have hN:∀ j,(xs j).length≤cur.length:=fun j=>by
    rw [ek,f5,f5];exact ai1 _ _
   refine ae.ik I 23 1 0 fun I=>?_
   refine ae.cl [0,4,5] C I (σ:=Nat×bN) (fun q=>[(9,.int .i64 (q.1:Int)),(8,.ay 1 (xs q.1) q.2)]) (fun q=>[(q.2,.row 23 1 (xs q.1).length),(.own b2,.row 3 1 (acc.length+1))]) (fun q=>q.1≤cur.length) (fun q=>cur.length-q.1) (0,.nil) (g9 _) ⟨⟨_,rfl,aM⟩,⟨_,rfl,by rw [bo];exact aR.nil hh⟩,trivial⟩ Fa ?_;rintro ⟨i,tN⟩ aS I;simp only at aS I ⊢;refine ck ?_;refine ae.cond C (fun k1=>?_) (fun lu=>?_)
   ·have k1:i<cur.length:=by simpa using k1
    obtain ⟨l,ax,da⟩:=cf (f:=bk) k1;have ao:=ek (i+1);rw [js ax,ac2,ac2,← ek] at ao;have ao:xs (i+1)=xs i++[.ay 1 ((fh gd l).map bb) .aZ]:=ao;have dj:(xs (i+1)).length=(xs i).length+1:=by rw [ao];simp
    have nq:=hN i;have hw:=FF l gd (by have:=(hm.each l (d6 ax)).1;omega);unfold bk at da hw;refine ej ?_;refine aa.dX C C C C C hw ?_;refine dD ?_;refine aa.gq aj I C C C C C C C ef C C C C C C C C aV h7 pa ag (fun eJ I=>?_);refine hI ?_;exact bF.mk (i+1,.own eJ) I k1 o9 (by show aH _ [(_,.row _ _ (xs (i+1)).length),_] _;rw [dj];exact aH.ez _) Ff
   ·have lu:i=cur.length:=by
     have:cur.length≤i:=by simpa using lu
     omega
    subst lu;have he:xs cur.length=(cur.map (fh gd)).map bk:=by rw [ek,ac']
    rw [he] at I ⊢;refine bG ?_;exact bF.mk (k,cur.map (fh gd),acc++[gd],.own b2) I ⟨dQ,by show total (cur.map (fh gd))<k;omega,hm.fh gd,by show (acc++[gd]).length+total (cur.map (fh gd))≤total all;rw [d9,ac8];omega⟩ ⟨⟨_,rfl,aR.aZ⟩,⟨_,rfl,aR.of_eq (by simp [bb])⟩,trivial⟩ (by show aH _ [(_,.row _ _ (acc++[gd]).length)] _;rw [d9,ac8];exact (aH.ez _).there) (by show k<k+1;omega)
structure rh (g:List (List Int)):Prop where
 len:g.length≤16
 par:∀ (i:Nat) (l:List Int),g[i]? = some l→l.length≤3∧∀ c∈l,3≤c∧c<3+(i:Int)
theorem KB {f i:Int}:∀ {l seen:List Int},lT f i seen l=true→∀ c∈l,f≤c∧c<f+i
  | [],_,_,c,aF=>by cases aF
  | d::r,seen,h,c,aF=>by
    rw [lT] at h;simp only [f6,g8] at h;rcases ad4.1 aF with rfl|aF
    · exact ⟨h.1,h.2.1⟩
    · exact KB h.2.2.2 c aF
theorem KC:∀ {g:List (List Int)} {k:Nat},ny k g=true→∀ i l,g[i]? = some l→l.length≤3∧∀ c∈l,3≤c∧c<3+((k+i:Nat):Int)
  | [],_,_,i,l,aB=>by simp at aB
  | x::r,k,h,i,l,aB=>by
    rw [ny] at h;simp only [f6,g8] at h;cases i with
    | zero=>
      cases aB;exact ⟨h.1,fun c aF=>by have:=KB h.2.1 c aF;omega⟩
    | succ i=>
      have:=KC h.2.2 i l aB;rw [show k+1+i=k+(i+1) by omega] at this;exact this
theorem zD {g:List (List Int)} (h:lU g=true):rh g:=by
 unfold lU at h;simp only [f6,g8] at h;refine ⟨h.1,fun i l aB=>?_⟩;have:=KC h.2 i l aB;simpa using this
theorem rh.parents {g:List (List Int)} (h:rh g) (c:Nat):(parents g c).length≤3∧∀ p∈parents g c,3≤p∧p<(c:Int):=by
 unfold Go.Proofs.YtnafpeohfbglmaaGreat.parents;by_cases aF:c<3
 ·rw [f9 aF];exact ⟨by simp,fun p aE=>by cases aE⟩
 ·rw [f0 aF,d5]
  cases aB:g[c-3]? with
  | none=>exact ⟨by simp,fun p aE=>by simp at aE⟩
  | some l=>
   obtain ⟨U,ad⟩:=h.par _ _ aB;exact ⟨U,fun p aE=>by have:=ad p aE;omega⟩
structure aa3 (n:Nat) (l:List Int):Prop where
 len:l.length≤n
 pos:∀ c∈l,0≤c
theorem FH:∀ (k:Nat) (all:List (List Int)) (acc:List Int),(merge k all acc).1.length≤acc.length+total all
  | 0,_,acc=>by rw [merge];exact au5 _ _
  | k+1,all,acc=>by
    rw [merge];cases aE:pick all all with
    | none=>exact au5 _ _
    | some d=>
      simp only;have U:=FH k (all.map (fh d)) (acc++[d]);have ad:=Ck (tI aE);rw [d9,ac8] at U;omega
theorem SV (g:List (List Int)) (au:g.length<bt) (c:Nat) (aF:c<3+g.length):aU d0 271 [dv g,.int .i64 (c:Int)] (bk (parents g c)):=by
 have an:=bC;refine aU.bn aj Tryz.func271 C C fun s I=>?_
 unfold dv parents;refine ck ?_;refine ae.cond C (fun h=>?_) (fun h=>?_)
 ·have h:c<3:=by have:=ah1 h;omega
  rw [f9 h];refine gO ?_;exact Fin.cL I C (aR.nil hh)
 ·have h:¬ c<3:=by have:=of_decide_eq_false h;omega
  obtain ⟨l,ax,da⟩:=cf (f:=bk) (l:=g) (j:=c-3) ag;rw [f0 h,d5,ax];unfold bk at da;refine ej ?_;refine aa.idx aj (c-3) C C C C C C C C C C Fc da C ?_;refine dY ?_;exact bA I
theorem KD {o:List (List Int)}:∀ {l:List Int} {r:List (List Int)},iB o l=some r→r.length=l.length
  | [],r,h=>by cases h;rfl
  | p::q,r,h=>by
    rw [iB] at h;split at h
    · cases h
    · cases bp:iB o q with
      | none=>rw [bp] at h;cases h
      | some t=>
        rw [bp] at h;cases h;rw [i7,KD bp,i7]
def pre (x:Option (List (List Int))) (a:List (List Int)):Option (List (List Int)):=x.map fun l=>a++l
theorem KE (x:Option (List (List Int))):pre x []=x:=by cases x<;>rfl
theorem KF (o:List (List Int)) (a:List (List Int)) (p:Int) (q:List Int):pre (iB o (p::q)) a=if (o.getD p.toNat []).isEmpty then none else pre (iB o q) (a++[fh 0 (o.getD p.toNat [])]):=by
 unfold pre;rw [iB];split
 ·rfl
 ·cases iB o q<;>simp
def tO:Option (List (List Int))→af
 | some l => .cg [dv l,.bool true]
 | none => .cg [dv [],.bool false]
theorem SW (g:List (List Int)) (au:rh g) (o:List (List Int)) (c:Nat) (aF:c<3+g.length) (ah:c≤o.length) (gh:o.length<100) (zE:∀ l∈o,l.length<1000) :
  aU d0 251 [dv g,dv o,.int .i64 (c:Int)] (tO (lists g o c)):=by
 have an:=bC;have jI:=au.len;have aE:=SV g ag c aF;obtain ⟨ri,ox⟩:=au.parents c;unfold lists;generalize parents g c=l at aE ri ox ⊢;refine aU.bn aj Tryz.func251 C C fun s I=>?_
 unfold dv at aE ⊢;unfold bk at aE;refine dz ?_;refine aa.dX C C C C C aE ?_;refine bG ?_;refine ae.ik I 23 1 0 fun I=>?_
 refine ae.cl [1,9] C I (σ:=Nat×List (List Int)×bN) (fun q=>[(10,.int .i64 (q.1:Int)),(8,.ay 1 (q.2.1.map bk) q.2.2)]) (fun q=>[(q.2.2,.row 23 1 q.2.1.length)]) (fun q=>q.1≤l.length∧q.2.1.length=q.1∧iB o l=pre (iB o (l.drop q.1)) q.2.1) (fun q=>l.length-q.1) (0,[],.nil) ⟨g9 _,rfl,(KE _).symm⟩ ⟨⟨_,rfl,aM⟩,⟨_,rfl,aR.nil hh⟩,trivial⟩ (aH.ez _) ?_;rintro ⟨j,acc,own⟩ ⟨aO,qf,aw⟩ I;simp only at aO qf aw I ⊢;refine ck ?_;refine ae.cond C (fun az=>?_) (fun a'=>?_);rotate_left
 ·have a':l.length≤j:=by simpa using a'
  rw [eR a'] at aw;have aw:iB o l=some (acc++[]):=aw;rw [aw,d8];have FI:tO (Option.map (fun x=>x++[l]) (some acc)) = .cg [.ay 1 (acc.map bk++[.ay 1 (l.map bb) .aZ]) .aZ,.bool true]:=by
   show af.cg [.ay 1 ((acc++[l]).map bk) .aZ,.bool true]=_;rw [ac2];rfl
  rw [FI];refine bG ?_;refine aa.gq aj I C C C C C C C ef C C C C C C C C aV h7 pa ag (fun b2 I=>?_);refine dY ?_;exact Fin.cL I C (aR.cg (.cons aR.aZ (.one aM)))
 have az:j<l.length:=by simpa using az
 obtain ⟨p,ax,da⟩:=cf (f:=bb) az;rw [drop_cons ax,KF] at aw;obtain ⟨KG,aa4⟩:=ox p (d6 ax);have ig:p.toNat<o.length:=by omega
 have FJ:o[p.toNat]? = some (o.getD p.toNat []):=by rw [d5,f8 ig];rfl
 have lW:=zE _ (d6 FJ);have CA:(o.map bk)[p.toNat]? = some (bk (o.getD p.toNat [])):=by rw [ad7,FJ];rfl
 generalize o.getD p.toNat []=ol at aw FJ lW CA;have zF:p=(p.toNat:Int):=by omega
 have hw:=FF ol 0 ag;unfold bb at da;unfold bk at CA hw;refine ej ?_;refine aa.idx aj p.toNat C C C C C C C C C C zF CA C ?_;refine ga ?_;cases ol with
 | nil=>
  have aw:iB o l=none:=aw;rw [aw];refine ae.fL C ?_;refine kx ?_;exact Fin.cL I C (aR.cg (.cons (aR.nil hh) (.one aM)))
 | cons x r=>
  refine ae.cond C (fun h=>absurd h cO) (fun _=>?_);refine ej ?_;refine aa.idx aj p.toNat C C C C C C C C C C zF CA C ?_;refine dD ?_;refine aa.dX C C C C C hw ?_;refine dD ?_;refine aa.gq aj I C C C C C C C ef C C C C C C C C aV h7 pa ag (fun b2 I=>?_);refine hI ?_;exact bF.mk (j+1,acc++[fh 0 (x::r)],.own b2) I ⟨az,by rw [d9,qf];rfl,aw⟩ xk (by show aH _ [(_,.row _ _ (acc++[fh 0 (x::r)]).length)] _;rw [d9,ac8];exact aH.ez _) (by show l.length-(j+1)<l.length-j;omega)
theorem ae.sK {P:Program} {N:Nat} {Q:bX→Env→ak→Prop} {env:Env} {s:ak} {c:Code} {L:a6} (I:Ok s L) (e:TypeId) (sz n:Nat) (h:Ok s ((.clip,.row e sz n)::L)→ae P N c Q env (aQ s ((.clip,.row e sz n)::L))):ae P N c Q env (aQ s L):=h ⟨trivial,I⟩
theorem aa.sK {P:Program} {N:Nat} {ops:Array Oper} {Q:bX→Env→ak→Prop} {env:Env} {s:ak} {l:List Oper} {L:a6} (I:Ok s L) (e:TypeId) (sz n:Nat) (h:Ok s ((.clip,.row e sz n)::L)→aa P N ops l Q env (aQ s ((.clip,.row e sz n)::L))):aa P N ops l Q env (aQ s L):=h ⟨trivial,I⟩
theorem FK:∀ (n:Nat) (l:List Int),l.Nodup→(∀ c∈l,0≤c∧c<(n:Int))→l.length≤n
  | 0,[],_,_=>i0 _
  | 0,c::r,_,h=>by have:=h c i5;omega
  | n+1,l,av,h=>by
    by_cases hm:(n:Int)∈l
    · have U:=FK n (l.erase (n:Int)) (av.erase _) (fun c aF=>by
        obtain ⟨ad,al⟩:=av.mem_erase_iff.1 aF
        have:=h c al
        omega)
      rw [List.length_erase_of_mem hm] at U;omega
    · have:=FK n l av (fun c aF=>by
        have U:=h c aF
        have:c≠(n:Int):=fun e=>hm (e ▸ aF)
        omega)
      omega
theorem KH:∀ (k:Nat) (all:List (List Int)) (acc:List Int),acc.Nodup→(∀ c∈acc,∀ l∈all,c∉l)→(merge k all acc).1.Nodup
  | 0,_,_,h,_=>h
  | k+1,all,acc,h,av=>by
    rw [merge];cases aE:pick all all with
    | none=>exact h
    | some d=>
      simp only;obtain ⟨t,aK⟩:=tI aE;refine KH k _ _ ?_ ?_
      · rw [List.nodup_append]
        exact ⟨h,by simp,fun a a8 b an=>by
          rw [t7] at an;subst an
          intro e;subst e
          exact av a a8 _ aK i5⟩
      · intro c aF l aB
        obtain ⟨kT,U,rfl⟩:=ad2.1 aB;unfold fh;rw [af4];rintro ⟨ad,al⟩;rcases ac7.1 aF with aF|aF
        · exact av c aF kT U ad
        · rw [t7] at aF;subst aF;simp at al
theorem KI {q:Int→Prop}:∀ (k:Nat) (all:List (List Int)) (acc:List Int),(∀ l∈all,∀ c∈l,q c)→(∀ c∈acc,q c)→∀ c∈(merge k all acc).1,q c
  | 0,_,acc,_,h=>h
  | k+1,all,acc,a8,h=>by
    rw [merge];cases aE:pick all all with
    | none=>exact h
    | some d=>
      simp only;refine KI k _ _ (fun l aB c aF=>?_) (fun c aF=>?_)
      · obtain ⟨kT,U,rfl⟩:=ad2.1 aB
        exact a8 kT U c (af4.1 aF).1
      · rcases ac7.1 aF with aF|aF
        · exact h c aF
        · rw [t7] at aF;subst aF
          obtain ⟨t,aK⟩:=tI aE;exact a8 _ aK c i5
theorem FL {q:Int→Prop} {o:List (List Int)} (ah:∀ l∈o,∀ c∈l,q c):∀ {l:List Int} {r:List (List Int)},iB o l=some r→∀ x∈r,∀ c∈x,q c
  | [],r,h,x,ab=>by cases h;cases ab
  | p::t,r,h,x,ab=>by
    rw [iB] at h;split at h
    · cases h
    · cases bp:iB o t with
      | none=>rw [bp] at h;cases h
      | some s=>
        rw [bp] at h;cases h;rcases ad4.1 ab with rfl|ab
        · intro c aF
          have aF:=(af4.1 aF).1;rw [d5] at aF;cases aB:o[p.toNat]? with
          | none=>rw [aB] at aF;cases aF
          | some l=>rw [aB] at aF;exact ah l (d6 aB) c aF
        · exact FL ah bp x ab
structure FM (n:Nat) (o:List (List Int)):Prop where
 len:∀ l∈o,l.length≤n+2
 FN:∀ l∈o,∀ c∈l,0≤c∧c<(n:Int)
theorem SX {g:List (List Int)} (au:rh g) {o:List (List Int)} {c:Nat} (aF:c<3+g.length) (ah:FM (3+g.length) o):(order g o c).length≤3+g.length+2∧∀ x∈order g o c,0≤x∧x<((3+g.length:Nat):Int):=by
 unfold order;cases aB:lists g o c with
 | none=>exact ⟨by simp,fun x ab=>by cases ab⟩
 | some all=>
  simp only;split
  ·have aE:=au.parents c
   have gE:∀ l∈all,∀ c∈l,0≤c∧c<((3+g.length:Nat):Int):=by
    unfold lists at aB;cases bp:iB o (parents g c) with
    | none=>rw [bp] at aB;cases aB
    | some r=>
     rw [bp] at aB;cases aB;intro l aB x ab;rcases ac7.1 aB with aB|aB
     ·exact FL (q:=fun x=>0≤x∧x<((3+g.length:Nat):Int)) ah.FN bp l aB x ab
     ·rw [t7] at aB;subst aB
      have:=aE.2 x ab;omega
   have U:∀ x∈(merged all).1,0≤x∧x<((3+g.length:Nat):Int):=KI _ all [] gE (fun c aF=>by cases aF);have ad:(merged all).1.Nodup:=KH _ all [] List.nodup_nil (fun c aF=>by cases aF);have al:=FK _ _ ad U;refine ⟨by rw [d9,i7,ac8];omega,fun x ab=>?_⟩;rcases ac7.1 ab with ab|ab
   ·rcases ad4.1 ab with rfl|ab
    ·omega
    ·exact U x ab
   ·rw [t7] at ab;omega
  ·exact ⟨by simp,fun x ab=>by cases ab⟩
theorem zG {g:List (List Int)} (au:rh g):∀ k,k<3+g.length→FM (3+g.length) (fo g k)
  | 0,_=>⟨fun l aB=>by rw [fo,t7] at aB;subst aB;simp,fun l aB c aF=>by rw [fo,t7] at aB;subst aB;rw [t7] at aF;omega⟩
  | k+1,h=>by
    have aX:=zG au k ag;have U:=SX au h aX;rw [fo];refine ⟨fun l aB=>?_,fun l aB=>?_⟩
    · rcases ac7.1 aB with aB|aB
      · exact aX.len l aB
      · rw [t7] at aB;subst aB;exact U.1
    · rcases ac7.1 aB with aB|aB
      · exact aX.FN l aB
      · rw [t7] at aB;subst aB;exact U.2
theorem aR.zH {sz:Nat} {xs ys:List af} {own:bN} (h:cM xs ys):aR (.ay sz xs own) (.ay sz ys own):=fun w p v ar=>by
 cases ar with
 | hL _ _ ah=>cases h;exact .hL _ _ ah
 | ib a _ _ ah=>cases h;exact .ib a _ _ ah
 | ay g off n cap _ vs _ _ aA aB aF aC ao hm aD cu ah=>exact .ay g off n cap _ vs _ _ aA (by rw [aB];exact h.length) aF (h.rel aC) ao hm aD cu ah
theorem FO {g:List (List Int)} (au:rh g) {o:List (List Int)} {c:Nat} (ah:FM (3+g.length) o) {all:List (List Int)} (h:lists g o c=some all):qe 4 21 all:=by
 have aE:=au.parents c;have jI:=au.len;unfold lists at h;cases bp:iB o (parents g c) with
 | none=>rw [bp] at h;cases h
 | some r=>
  rw [bp] at h;cases h;have aB:=KD bp;refine ⟨by rw [d9,ac8];omega,fun l aB=>?_⟩;rcases ac7.1 aB with aB|aB
  ·refine ⟨?_,fun x ab=>(FL (q:=fun x=>0≤x) (fun l aB c aF=>(ah.FN l aB c aF).1) bp l aB x ab)⟩
   have key:∀ {l:List Int} {r:List (List Int)},iB o l=some r→∀ x∈r,x.length≤21:=by
    intro l
    induction l with
    | nil=>intro r h x ab;cases h;cases ab
    | cons p t aX=>
     intro r h x ab;rw [iB] at h;split at h
     ·cases h
     ·cases bp:iB o t with
      | none=>rw [bp] at h;cases h
      | some s=>
       rw [bp] at h;cases h;rcases ad4.1 ab with rfl|ab
       ·refine al5 (xm _ _) ?_
        rw [d5];cases aB:o[p.toNat]? with
        | none=>simp
        | some l=>
         have:=ah.len l (d6 aB);show l.length≤21;omega
       ·exact aX bp x ab
   exact key bp l aB
  ·rw [t7] at aB;subst aB
   exact ⟨by omega,fun x ab=>by have:=aE.2 x ab;omega⟩
theorem SY (g:List (List Int)) (au:rh g):aU d0 219 [dv g] (dv (fo g (2+g.length))):=by
 have an:=bC;have jI:=au.len;obtain ⟨xs,ek⟩:∃ xs:Nat→List af,∀ j,xs j=(fo g j).map bk:=⟨_,fun _=>rfl⟩;have bo:xs 0=[.ay 1 [.int .i64 0] .aZ]:=by rw [ek];rfl
 have hN:∀ j,(xs j).length=j+1:=fun j=>by rw [ek,f5,sE]
 refine aU.bn aj Tryz.func219 C C fun s I=>?_
 unfold dv;refine hs ?_;refine ae.sK I 23 1 1 fun I=>?_
 refine ae.cl [0] C I (σ:=Nat×bN) (fun q=>[(4,.int .i64 ((q.1+1:Nat):Int)),(3,.ay 1 (xs q.1) q.2)]) (fun q=>[(q.2,.row 23 1 (xs q.1).length)]) (fun q=>q.1≤2+g.length) (fun q=>2+g.length-q.1) (0,.clip) (g9 _) ⟨⟨_,rfl,aM⟩,⟨_,rfl,by rw [bo];exact aR.zH (.one aR.aZ)⟩,trivial⟩ (by rw [hN];exact aH.ez _) ?_;rintro ⟨j,own⟩ aO I;simp only at aO I ⊢;have w:aa' .i64 (3+((g.map bk).length:Int))=3+(g.length:Int):=by rw [f5,er ag ag]
 refine ck ?_;refine ae.cond C (fun az=>?_) (fun a'=>?_);rotate_left
 ·have a':j=2+g.length:=by
   rw [w] at a';have:=of_decide_eq_false a';omega
  subst a';rw [← ek];refine eH ?_;exact Fin.cL I C aR.aZ
 have az:j<2+g.length:=by
  rw [w] at az;have:=ah1 az;omega
 have lL:=zG au j ag;have oy:=SW g au (fo g j) (j+1) ag (by rw [sE];exact i0 _) (by rw [sE];omega) (fun l aB=>by have:=lL.len l aB;omega);have ao:=ek (j+1);rw [fo,ac2,← ek] at ao;have ao:xs (j+1)=xs j++[bk (order g (fo g j) (j+1))]:=ao;have dj:(xs (j+1)).length=(xs j).length+1:=by rw [ao];simp
 have nq:=hN j;unfold order at ao;have SZ:cM [.ay 1 (g.map bk) .aZ,.ay 1 (xs j) own,.int .i64 ((j+1:Nat):Int)] [dv g,dv (fo g j),.int .i64 ((j+1:Nat):Int)] := .cons aM (.cons (by unfold dv;rw [← ek];exact aR.aZ) (.one aM));have oy:=aU.args SZ oy;cases aB:lists g (fo g j) (j+1) with
 | none=>
  rw [aB] at oy ao;unfold tO dv at oy;simp only at ao;refine bG ?_;refine aa.dX C C C C C oy ?_;refine bG ?_;refine aa.gq aj I C C C C C C C ef C C C C C C C C aV h7 pa ag (fun b2 I=>?_);refine hI ?_;exact bF.mk (j+1,.own b2) I az ⟨⟨_,rfl,aR.of_eq (by rw [kV ag])⟩,⟨_,rfl,by rw [ao];exact aR.zH (cM.last (show aR (.ay 0 [] .nil) (bk []) from aR.nil hh) _)⟩,⟨_,rfl,aM⟩,trivial⟩ Fb Fg
 | some all=>
  rw [aB] at oy ao;have hm:=SS 4 21 ag all (FO au lL aB);unfold tO dv at oy;unfold dv bk at hm;simp only at ao;refine bG ?_;refine aa.dX C C C C C oy ?_;refine bG ?_;refine aa.dX C C C C C hm ?_;have hx:=FH (total all+1) all [];have xx:=Cz (FO au lL aB);cases vJ:(merged all).2 with
  | false=>
   rw [vJ] at ao;simp only [Bool.false_eq_true,af5] at ao;refine bG ?_;refine aa.gq aj I C C C C C C C ef C C C C C C C C aV h7 pa ag (fun b2 I=>?_);refine hI ?_;exact bF.mk (j+1,.own b2) I az ⟨⟨_,rfl,aR.of_eq (by rw [kV ag])⟩,⟨_,rfl,by rw [ao];exact aR.zH (cM.last (show aR (.ay 0 [] .nil) (bk []) from aR.nil hh) _)⟩,⟨_,rfl,aM⟩,trivial⟩ Fb Fg
  | true=>
   rw [vJ] at ao;simp only [ae2] at ao;have FP:(merged all).1.length≤84:=by
    have:(merged all).1.length≤0+total all:=hx;omega
   generalize (merged all).1=m at hm ao FP;have he:bk (((j+1:Nat):Int)::m++[0]) = .ay 1 ([.int .i64 ((j+1:Nat):Int)]++m.map bb++[.int .i64 0]) .aZ:=by unfold bk;simp [bb]
   rw [he] at ao;refine bG ?_;refine aa.sK I 3 1 1 fun I=>?_
   refine aa.m1 aj I rfl rfl rfl rfl rfl rfl rfl ef rfl rfl rfl rfl (.inr rfl) rfl (fun y ax=>by obtain ⟨z,-,rfl⟩:=ad2.1 ax;rfl) C .here C (n':=m.length+1) cO cO cO (fun lX I=>?_);refine dD ?_;refine aa.gq aj I C C C C C C C ef C C C C C C C C aV h7 kX ag (fun eJ I=>?_);refine hQ ?_;refine aa.gq aj I C C C C C C C ef C C C C C C C C aV h7 pa ag (fun b2 I=>?_);refine hI ?_;exact bF.mk (j+1,.own b2) I az ⟨⟨_,rfl,aR.of_eq (by rw [kV ag])⟩,⟨_,rfl,by rw [ao];exact aR.zH (cM.last aR.aZ _)⟩,⟨_,rfl,aM⟩,trivial⟩ Fb Fg
theorem S0 (g:List (List Int)) (au:rh g) (c:Nat) (aF:c<3+g.length):aU d0 181 [dv g,.int .i64 (c:Int)] (.cg [bk ((fo g (2+g.length)).getD c []),.bool (!((fo g (2+g.length)).getD c []).isEmpty)]):=by
 have ah:=SY g au;have aB:=sE g (2+g.length);have cu:c<(fo g (2+g.length)).length:=by omega
 obtain ⟨l,ax,da⟩:=cf (f:=bk) cu;rw [d5,ax,ae7];unfold dv at ah ⊢;unfold bk at da;refine aU.bn aj Tryz.func181 C C fun s I=>?_
 refine dz ?_;refine aa.dX C C C C C ah ?_;refine bG ?_;refine Fin.cL I C (aR.cg (.cons aM (.one (aR.of_eq ?_))));congr 1;cases l<;>simp
theorem aH.all:∀ L:a6,aH L L []
 | [] => .nil
 | (_,_)::L => .cons .here (aH.all L)
namespace aq
mutual
def cb:aq→af
 | .mk o a p c n ks => .agg [.int .i64 o,.int .i64 a,.ay 1 (p.map fun i => .int .i64 i) .aZ,.int .i64 c,.int .i64 n,.ay 6 (CB ks) .aZ]
def CB:List aq→List af
 | []=>[]
 | k::r=>k.cb::CB r
end
theorem KJ:∀ l:List aq,CB l=l.map cb
 | []=>rfl
 | k::r=>by rw [CB,ac0,KJ r]
def cells (x:aq):List af:=[.int .i64 x.op,.int .i64 x.arg,.ay 1 (x.path.map fun i => .int .i64 i) .aZ,.int .i64 x.cls,.int .i64 x.n,.ay 6 (x.kids.map cb) .aZ]
theorem cE (x:aq):x.cb = .agg x.cells:=by cases x;rw [cb,KJ];rfl
end aq
def fu (w:bw):List af:=[dv w.ps,bk w.owner]
def fw (w:bw):af := .agg (fu w)
def vK (x:iE):af := .agg [.int .i64 x.slot,.int .i64 x.n]
def lv (c:e3):List af:=[bk c.parents,bk c.bj,.ay 2 (c.inits.map vK) .aZ]
def gI (c:e3):af := .agg (lv c)
def oz (m:gP):List af:=[.int .i64 m.kind,.int .i64 m.gen,.int .i64 m.fact.op,.int .i64 m.fact.arg,.ay 1 (m.fact.path.map fun i => .int .i64 i) .aZ,.int .i64 m.fact.cls,.int .i64 m.fact.n,.ay 6 (m.fact.kids.map aq.cb) .aZ,.int .i64 m.node]
def jf (m:gP):af := .agg (oz m)
def kA (x:hX):List af:=[.int .i64 x.op,.int .i64 x.n,bk x.kids]
def gj (x:hX):af := .agg (kA x)
def cV (p:bK):List af:=[.ay 3 (p.bT.map gI) .aZ,.int .i64 p.bj,bk p.cR,.ay 9 (p.methods.map jf) .aZ,.ay 3 (p.nodes.map gj) .aZ,.int .i64 p.main]
def cW (p:bK):af := .agg (cV p)
def hy (x:bJ):List af:=[.int .i64 x.atom,.int .i64 x.no,.int .i64 x.yes,bk x.ms]
def eS (x:bJ):af := .agg (hy x)
theorem ee.KK {P:Program} {fv:af} {args:List af} {v:af} (h:ee P fv args v):dh P fv args [] (fun o K=>o = .ret v∧K=[]):=fun s _=>hG.mono (h s) (fun o ai ⟨U,ad⟩=>⟨[],ad,trivial,U,rfl⟩)
theorem bz.FQ {P:Program} {f:FuncId} {args:List af} {v:af} (h:bz P f args [] (fun o K=>o = .ret v∧K=[])):aU P f args v:=fun s=>gX.mono (h s trivial) (fun o ai ⟨K,U,_,ad,al⟩=>⟨ad,by subst al;exact U⟩)
theorem KL {α:Type} (q:α→Bool):∀ (xs:List α) (j:Nat) (x:α),xs[j]? = some x→q x=true→(∀ (i:Nat) y,i<j→xs[i]? = some y→q y=false)→xs.findIdx? q=some j:=by
 intro xs j x ab bp aS;obtain ⟨U,ad⟩:=ac1.1 ab;rw [af2];exact ⟨U,by rw [ad];exact bp,fun i eF=>by rw [aS i xs[i] eF (f8 _)];simp⟩
theorem KM {α:Type} (q:α→Bool) (xs:List α) (aS:∀ (i:Nat) y,xs[i]? = some y→q y=false):xs.findIdx? q=none:=by
 rw [ag8];intro x ab;obtain ⟨i,h⟩:=ag7 ab;exact aS i x h
theorem S1 {α:Type} {f:FuncId} {fv bx:af} {cb:α→af} {xs:List α} {q:α→Bool}
  (ao:∀ (T:Nat→a6) (b9:Nat→Bool),(∀ j x,xs[j]? = some x→(∀ i,i<j→b9 i=false)→dh d0 fv [cb x] (T j) (fun o K=>o = .ret (.bool (b9 j))∧K=T (j+1)))→bz d0 f [bx,fv] (T 0)
   (fun o K=>(o = .ret (.int .i64 (-1))∧K=T xs.length∧∀ i,i<xs.length→b9 i=false)∨∃ j,j<xs.length∧b9 j=true∧(∀ i,i<j→b9 i=false)∧o = .ret (.int .i64 (j:Int))∧K=T (j+1)))
  (h:∀ x∈xs,ee d0 fv [cb x] (.bool (q x))):aU d0 f [bx,fv] (.int .i64 (match xs.findIdx? q with|some i=>(i:Int)|none => -1)):=by
 have:=ao (fun _=>[]) (fun j=>match xs[j]? with|some x=>q x|none=>false) (fun j x ab _=>by rw [ab];exact ee.KK (h x (d6 ab)));refine bz.FQ (bz.mono this ?_);rintro o K (⟨rfl,rfl,U⟩|⟨j,U,ad,al,rfl,rfl⟩)
 ·rw [KM q xs (fun i y ax=>by have:=U i (re ax);rw [ax] at this;exact this)]
  exact ⟨rfl,rfl⟩
 ·have ab:=f8 U
  rw [ab] at ad;rw [KL q xs j _ ab ad (fun i y eF ax=>by have:=al i eF;rw [ax] at this;exact this)];exact ⟨rfl,rfl⟩
theorem zI {α:Type} {f:FuncId} {fv bx:af} {cb:α→af} {xs:List α} {q:α→Bool}
  (ao:∀ (T:Nat→a6) (b9:Nat→Bool),(∀ j x,xs[j]? = some x→(∀ i,i<j→b9 i=false)→dh d0 fv [cb x] (T j) (fun o K=>o = .ret (.bool (b9 j))∧K=T (j+1)))→bz d0 f [bx,fv] (T 0)
   (fun o K=>(o = .ret (.bool false)∧K=T xs.length∧∀ i,i<xs.length→b9 i=false)∨∃ j,j<xs.length∧b9 j=true∧(∀ i,i<j→b9 i=false)∧o = .ret (.bool true)∧K=T (j+1)))
  (h:∀ x∈xs,ee d0 fv [cb x] (.bool (q x))):aU d0 f [bx,fv] (.bool (xs.any q)):=by
 have:=ao (fun _=>[]) (fun j=>match xs[j]? with|some x=>q x|none=>false) (fun j x ab _=>by rw [ab];exact ee.KK (h x (d6 ab)));refine bz.FQ (bz.mono this ?_);rintro o K (⟨rfl,rfl,U⟩|⟨j,U,ad,al,rfl,rfl⟩)
 ·have:xs.any q=false:=by
   rw [List.any_eq_false];intro x ab;obtain ⟨i,aS⟩:=ag7 ab;have:=U i (re aS);rw [aS] at this;simpa using this
  rw [this];exact ⟨rfl,rfl⟩
 ·have ab:=f8 U
  rw [ab] at ad;have:xs.any q=true:=ae4.2 ⟨_,ak3 U,ad⟩;rw [this];exact ⟨rfl,rfl⟩
def fK (v:Int×Int):af := .agg [.int .i64 v.1,.int .i64 v.2]
def iG (x:ev):af := .agg [.int .i64 x.cls,.ay 2 (x.bj.map fK) .aZ]
theorem KN (fv:af) (xs:List aq) (T:Nat→a6) (b9:Nat→Bool) (aB:xs.length<bt) (h:∀ j x,xs[j]? = some x→(∀ i,i<j→b9 i=false)→dh d0 fv [aq.cb x] (T j) (fun o K=>o = .ret (.bool (b9 j))∧K=T (j+1))) :
  bz d0 150 [.ay 6 (xs.map aq.cb) .aZ,fv] (T 0)
   (fun o K=>(o = .ret (.int .i64 (-1))∧K=T xs.length∧∀ i,i<xs.length→b9 i=false)∨∃ j,j<xs.length∧b9 j=true∧(∀ i,i<j→b9 i=false)∧o = .ret (.int .i64 (j:Int))∧K=T (j+1)):=by
 have an:=bC;refine bz.bn aj Tryz.func150 C C fun s I=>?_
 refine hs ?_;refine ae.xi I (σ:=Nat) (fun j=>[(0,.ay 6 (xs.map aq.cb) .aZ),(1,fv),(7,.int .i64 xs.length),(8,.int .i64 (j:Int))]) T (fun j=>j≤xs.length∧∀ i,i<j→b9 i=false) (fun j=>xs.length-j) 0 ⟨by omega,fun i aS=>by omega⟩ zk (aH.all _) ?_;rintro j ⟨aO,aw⟩ I;refine ck ?_;refine ae.cond C (fun az=>?_) (fun a'=>?_)
 ·have az:j<xs.length:=by simpa using az
  obtain ⟨x,ab,ct⟩:=cf (f:=aq.cb) az;have ar:=h j x ab aw
  try rw [aq.cE] at ct ar
  refine bG ?_;refine aa.gr rfl rfl rfl rfl rfl rfl ar I (aH.all _) ?_ (fun _ _ ⟨h,_⟩ _=>by cases h);rintro _ _ ⟨⟨⟩,rfl⟩ I;rw [d8] at I ⊢;cases nI:b9 j with
  | true=>
   refine fB ?_;exact Fin.bu I C aM (aH.all _) (.inr ⟨j,az,nI,aw,rfl,rfl⟩)
  | false=>
   refine bG ?_
   exact bF.mk (j+1) I ⟨az,fun i aS=>by
    rcases af3.1 aS with aS|rfl
    ·exact aw i aS
    ·exact nI⟩ cC (aH.all _) q5
 ·have a':j=xs.length:=by
   have:xs.length≤j:=by simpa using a'
   omega
  subst a';refine eH ?_;exact Fin.bu I C aM (aH.all _) (.inl ⟨rfl,rfl,aw⟩)
theorem FR (fv:af) (xs:List aq) (T:Nat→a6) (b9:Nat→Bool) (aB:xs.length<bt) (h:∀ j x,xs[j]? = some x→(∀ i,i<j→b9 i=false)→dh d0 fv [aq.cb x] (T j) (fun o K=>o = .ret (.bool (b9 j))∧K=T (j+1))) :
  bz d0 102 [.ay 6 (xs.map aq.cb) .aZ,fv] (T 0)
   (fun o K=>(o = .ret (.bool false)∧K=T xs.length∧∀ i,i<xs.length→b9 i=false)∨∃ j,j<xs.length∧b9 j=true∧(∀ i,i<j→b9 i=false)∧o = .ret (.bool true)∧K=T (j+1)):=by
 refine bz.bn aj Tryz.func102 C C fun s I=>?_
 refine dz ?_;refine aa.bZ rfl rfl rfl rfl rfl (KN fv xs T b9 aB h) I (aH.all _) ?_ (fun _ _ h _=>by rcases h with ⟨h,_⟩|⟨_,_,_,_,h,_⟩<;>cases h);rintro _ _ (⟨⟨⟩,rfl,U⟩|⟨j,U,ad,al,⟨⟩,rfl⟩) I
 all_goals rw [d8] at I ⊢
 ·refine dY ?_
  exact Fin.bu I C aM (aH.all _) (.inl ⟨rfl,rfl,U⟩)
 ·refine dY ?_
  exact Fin.bu I C (by simp;exact aM) (aH.all _) (.inr ⟨j,U,ad,al,rfl,rfl⟩)
theorem S2 (fv:af) (q:aq→Bool) (xs:List aq) (aB:xs.length<bt) (h:∀ x∈xs,ee d0 fv [aq.cb x] (.bool (q x))) :
  aU d0 102 [.ay 6 (xs.map aq.cb) .aZ,fv] (.bool (xs.any q)):=
 zI (fun T b9 ep=>FR fv xs T b9 aB ep) h
theorem S3 (fv:af) (q:aq→Bool) (xs:List aq) (aB:xs.length<bt) (h:∀ x∈xs,ee d0 fv [aq.cb x] (.bool (q x))) :
  aU d0 150 [.ay 6 (xs.map aq.cb) .aZ,fv] (.int .i64 (match xs.findIdx? q with|some i=>(i:Int)|none => -1)):=
 S1 (fun T b9 ep=>KN fv xs T b9 aB ep) h
theorem S4 (fv:af) (xs:List Int) (T:Nat→a6) (b9:Nat→Bool) (aB:xs.length<bt) (h:∀ j x,xs[j]? = some x→(∀ i,i<j→b9 i=false)→dh d0 fv [bb x] (T j) (fun o K=>o = .ret (.bool (b9 j))∧K=T (j+1))) :
  bz d0 90 [.ay 1 (xs.map bb) .aZ,fv] (T 0)
   (fun o K=>(o = .ret (.int .i64 (-1))∧K=T xs.length∧∀ i,i<xs.length→b9 i=false)∨∃ j,j<xs.length∧b9 j=true∧(∀ i,i<j→b9 i=false)∧o = .ret (.int .i64 (j:Int))∧K=T (j+1)):=by
 have an:=bC;refine bz.bn aj Tryz.func90 C C fun s I=>?_
 refine hs ?_;refine ae.xi I (σ:=Nat) (fun j=>[(0,.ay 1 (xs.map bb) .aZ),(1,fv),(7,.int .i64 xs.length),(8,.int .i64 (j:Int))]) T (fun j=>j≤xs.length∧∀ i,i<j→b9 i=false) (fun j=>xs.length-j) 0 ⟨by omega,fun i aS=>by omega⟩ zk (aH.all _) ?_;rintro j ⟨aO,aw⟩ I;refine ck ?_;refine ae.cond C (fun az=>?_) (fun a'=>?_)
 ·have az:j<xs.length:=by simpa using az
  obtain ⟨x,ab,ct⟩:=cf (f:=bb) az;have ar:=h j x ab aw
  try rw [bb] at ct ar
  refine bG ?_;refine aa.gr rfl rfl rfl rfl rfl rfl ar I (aH.all _) ?_ (fun _ _ ⟨h,_⟩ _=>by cases h);rintro _ _ ⟨⟨⟩,rfl⟩ I;rw [d8] at I ⊢;cases nI:b9 j with
  | true=>
   refine fB ?_;exact Fin.bu I C aM (aH.all _) (.inr ⟨j,az,nI,aw,rfl,rfl⟩)
  | false=>
   refine bG ?_
   exact bF.mk (j+1) I ⟨az,fun i aS=>by
    rcases af3.1 aS with aS|rfl
    ·exact aw i aS
    ·exact nI⟩ cC (aH.all _) q5
 ·have a':j=xs.length:=by
   have:xs.length≤j:=by simpa using a'
   omega
  subst a';refine eH ?_;exact Fin.bu I C aM (aH.all _) (.inl ⟨rfl,rfl,aw⟩)
theorem KO (fv:af) (xs:List Int) (T:Nat→a6) (b9:Nat→Bool) (aB:xs.length<bt) (h:∀ j x,xs[j]? = some x→(∀ i,i<j→b9 i=false)→dh d0 fv [bb x] (T j) (fun o K=>o = .ret (.bool (b9 j))∧K=T (j+1))) :
  bz d0 40 [.ay 1 (xs.map bb) .aZ,fv] (T 0)
   (fun o K=>(o = .ret (.bool false)∧K=T xs.length∧∀ i,i<xs.length→b9 i=false)∨∃ j,j<xs.length∧b9 j=true∧(∀ i,i<j→b9 i=false)∧o = .ret (.bool true)∧K=T (j+1)):=by
 refine bz.bn aj Tryz.func40 C C fun s I=>?_
 refine dz ?_;refine aa.bZ rfl rfl rfl rfl rfl (S4 fv xs T b9 aB h) I (aH.all _) ?_ (fun _ _ h _=>by rcases h with ⟨h,_⟩|⟨_,_,_,_,h,_⟩<;>cases h);rintro _ _ (⟨⟨⟩,rfl,U⟩|⟨j,U,ad,al,⟨⟩,rfl⟩) I
 all_goals rw [d8] at I ⊢
 ·refine dY ?_
  exact Fin.bu I C aM (aH.all _) (.inl ⟨rfl,rfl,U⟩)
 ·refine dY ?_
  exact Fin.bu I C (by simp;exact aM) (aH.all _) (.inr ⟨j,U,ad,al,rfl,rfl⟩)
theorem S5 (fv:af) (q:Int→Bool) (xs:List Int) (aB:xs.length<bt) (h:∀ x∈xs,ee d0 fv [bb x] (.bool (q x))) :
  aU d0 40 [.ay 1 (xs.map bb) .aZ,fv] (.bool (xs.any q)):=
 zI (fun T b9 ep=>KO fv xs T b9 aB ep) h
theorem S6 (fv:af) (xs:List (Int×Int)) (T:Nat→a6) (b9:Nat→Bool) (aB:xs.length<bt) (h:∀ j x,xs[j]? = some x→(∀ i,i<j→b9 i=false)→dh d0 fv [fK x] (T j) (fun o K=>o = .ret (.bool (b9 j))∧K=T (j+1))) :
  bz d0 241 [.ay 2 (xs.map fK) .aZ,fv] (T 0)
   (fun o K=>(o = .ret (.int .i64 (-1))∧K=T xs.length∧∀ i,i<xs.length→b9 i=false)∨∃ j,j<xs.length∧b9 j=true∧(∀ i,i<j→b9 i=false)∧o = .ret (.int .i64 (j:Int))∧K=T (j+1)):=by
 have an:=bC;refine bz.bn aj Tryz.func241 C C fun s I=>?_
 refine hs ?_;refine ae.xi I (σ:=Nat) (fun j=>[(0,.ay 2 (xs.map fK) .aZ),(1,fv),(7,.int .i64 xs.length),(8,.int .i64 (j:Int))]) T (fun j=>j≤xs.length∧∀ i,i<j→b9 i=false) (fun j=>xs.length-j) 0 ⟨by omega,fun i aS=>by omega⟩ zk (aH.all _) ?_;rintro j ⟨aO,aw⟩ I;refine ck ?_;refine ae.cond C (fun az=>?_) (fun a'=>?_)
 ·have az:j<xs.length:=by simpa using az
  obtain ⟨x,ab,ct⟩:=cf (f:=fK) az;have ar:=h j x ab aw
  try rw [fK] at ct ar
  refine bG ?_;refine aa.gr rfl rfl rfl rfl rfl rfl ar I (aH.all _) ?_ (fun _ _ ⟨h,_⟩ _=>by cases h);rintro _ _ ⟨⟨⟩,rfl⟩ I;rw [d8] at I ⊢;cases nI:b9 j with
  | true=>
   refine fB ?_;exact Fin.bu I C aM (aH.all _) (.inr ⟨j,az,nI,aw,rfl,rfl⟩)
  | false=>
   refine bG ?_
   exact bF.mk (j+1) I ⟨az,fun i aS=>by
    rcases af3.1 aS with aS|rfl
    ·exact aw i aS
    ·exact nI⟩ cC (aH.all _) q5
 ·have a':j=xs.length:=by
   have:xs.length≤j:=by simpa using a'
   omega
  subst a';refine eH ?_;exact Fin.bu I C aM (aH.all _) (.inl ⟨rfl,rfl,aw⟩)
theorem S7 (fv:af) (xs:List (Int×Int)) (T:Nat→a6) (b9:Nat→Bool) (aB:xs.length<bt) (h:∀ j x,xs[j]? = some x→(∀ i,i<j→b9 i=false)→dh d0 fv [fK x] (T j) (fun o K=>o = .ret (.bool (b9 j))∧K=T (j+1))) :
  bz d0 207 [.ay 2 (xs.map fK) .aZ,fv] (T 0)
   (fun o K=>(o = .ret (.bool false)∧K=T xs.length∧∀ i,i<xs.length→b9 i=false)∨∃ j,j<xs.length∧b9 j=true∧(∀ i,i<j→b9 i=false)∧o = .ret (.bool true)∧K=T (j+1)):=by
 refine bz.bn aj Tryz.func207 C C fun s I=>?_
 refine dz ?_;refine aa.bZ rfl rfl rfl rfl rfl (S6 fv xs T b9 aB h) I (aH.all _) ?_ (fun _ _ h _=>by rcases h with ⟨h,_⟩|⟨_,_,_,_,h,_⟩<;>cases h);rintro _ _ (⟨⟨⟩,rfl,U⟩|⟨j,U,ad,al,⟨⟩,rfl⟩) I
 all_goals rw [d8] at I ⊢
 ·refine dY ?_
  exact Fin.bu I C aM (aH.all _) (.inl ⟨rfl,rfl,U⟩)
 ·refine dY ?_
  exact Fin.bu I C (by simp;exact aM) (aH.all _) (.inr ⟨j,U,ad,al,rfl,rfl⟩)
theorem S8 (fv:af) (q:(Int×Int)→Bool) (xs:List (Int×Int)) (aB:xs.length<bt) (h:∀ x∈xs,ee d0 fv [fK x] (.bool (q x))) :
  aU d0 207 [.ay 2 (xs.map fK) .aZ,fv] (.bool (xs.any q)):=
 zI (fun T b9 ep=>S7 fv xs T b9 aB ep) h
theorem S9 (fv:af) (xs:List ev) (T:Nat→a6) (b9:Nat→Bool) (aB:xs.length<bt) (h:∀ j x,xs[j]? = some x→(∀ i,i<j→b9 i=false)→dh d0 fv [iG x] (T j) (fun o K=>o = .ret (.bool (b9 j))∧K=T (j+1))) :
  bz d0 264 [.ay 2 (xs.map iG) .aZ,fv] (T 0)
   (fun o K=>(o = .ret (.int .i64 (-1))∧K=T xs.length∧∀ i,i<xs.length→b9 i=false)∨∃ j,j<xs.length∧b9 j=true∧(∀ i,i<j→b9 i=false)∧o = .ret (.int .i64 (j:Int))∧K=T (j+1)):=by
 have an:=bC;refine bz.bn aj Tryz.func264 C C fun s I=>?_
 refine hs ?_;refine ae.xi I (σ:=Nat) (fun j=>[(0,.ay 2 (xs.map iG) .aZ),(1,fv),(7,.int .i64 xs.length),(8,.int .i64 (j:Int))]) T (fun j=>j≤xs.length∧∀ i,i<j→b9 i=false) (fun j=>xs.length-j) 0 ⟨by omega,fun i aS=>by omega⟩ zk (aH.all _) ?_;rintro j ⟨aO,aw⟩ I;refine ck ?_;refine ae.cond C (fun az=>?_) (fun a'=>?_)
 ·have az:j<xs.length:=by simpa using az
  obtain ⟨x,ab,ct⟩:=cf (f:=iG) az;have ar:=h j x ab aw
  try rw [iG] at ct ar
  refine bG ?_;refine aa.gr rfl rfl rfl rfl rfl rfl ar I (aH.all _) ?_ (fun _ _ ⟨h,_⟩ _=>by cases h);rintro _ _ ⟨⟨⟩,rfl⟩ I;rw [d8] at I ⊢;cases nI:b9 j with
  | true=>
   refine fB ?_;exact Fin.bu I C aM (aH.all _) (.inr ⟨j,az,nI,aw,rfl,rfl⟩)
  | false=>
   refine bG ?_
   exact bF.mk (j+1) I ⟨az,fun i aS=>by
    rcases af3.1 aS with aS|rfl
    ·exact aw i aS
    ·exact nI⟩ cC (aH.all _) q5
 ·have a':j=xs.length:=by
   have:xs.length≤j:=by simpa using a'
   omega
  subst a';refine eH ?_;exact Fin.bu I C aM (aH.all _) (.inl ⟨rfl,rfl,aw⟩)
theorem S' (fv:af) (xs:List ev) (T:Nat→a6) (b9:Nat→Bool) (aB:xs.length<bt) (h:∀ j x,xs[j]? = some x→(∀ i,i<j→b9 i=false)→dh d0 fv [iG x] (T j) (fun o K=>o = .ret (.bool (b9 j))∧K=T (j+1))) :
  bz d0 239 [.ay 2 (xs.map iG) .aZ,fv] (T 0)
   (fun o K=>(o = .ret (.bool false)∧K=T xs.length∧∀ i,i<xs.length→b9 i=false)∨∃ j,j<xs.length∧b9 j=true∧(∀ i,i<j→b9 i=false)∧o = .ret (.bool true)∧K=T (j+1)):=by
 refine bz.bn aj Tryz.func239 C C fun s I=>?_
 refine dz ?_;refine aa.bZ rfl rfl rfl rfl rfl (S9 fv xs T b9 aB h) I (aH.all _) ?_ (fun _ _ h _=>by rcases h with ⟨h,_⟩|⟨_,_,_,_,h,_⟩<;>cases h);rintro _ _ (⟨⟨⟩,rfl,U⟩|⟨j,U,ad,al,⟨⟩,rfl⟩) I
 all_goals rw [d8] at I ⊢
 ·refine dY ?_
  exact Fin.bu I C aM (aH.all _) (.inl ⟨rfl,rfl,U⟩)
 ·refine dY ?_
  exact Fin.bu I C (by simp;exact aM) (aH.all _) (.inr ⟨j,U,ad,al,rfl,rfl⟩)
theorem Ta (fv:af) (q:ev→Bool) (xs:List ev) (aB:xs.length<bt) (h:∀ x∈xs,ee d0 fv [iG x] (.bool (q x))) :
  aU d0 239 [.ay 2 (xs.map iG) .aZ,fv] (.bool (xs.any q)):=
 zI (fun T b9 ep=>S' fv xs T b9 aB ep) h
theorem KP {s s1:ak} {w eg:World} {p kB:bO} {T:TypeId} {v:Value} {b:Nat} (hle:c8 w p eg kB) (aD:Kept s s1 w p eg kB) (b5:df eg kB s1) (zJ:eg.heap[b]? = some (.cells #[v] T (0,0)))
  (an:w.heap.size≤b) (aE:∀ o,¬ kB b o) (ao:s1 b=none) (x:Value) :
  c8 w p (eg.setRow b #[x]) kB∧Kept s s1 w p (eg.setRow b #[x]) kB∧df (eg.setRow b #[x]) kB s1∧c8 eg kB (eg.setRow b #[x]) kB∧(eg.setRow b #[x]).heap[b]? = some (.cells #[x] T (0,0)):=by
 have ku:df eg kB (s1.set b (.box T [.any])):=by
  refine ⟨fun aT o dF=>?_,b5.lt⟩;by_cases e:aT=b
  ·subst e;rw [ak.fT] at dF;cases dF
   exact ⟨_,zJ,.cons _ _ _ _ (.any v) .nil,aE⟩
  ·rw [ak.fk _ _ e] at dF;exact b5.obj aT o dF
 obtain ⟨cv,db,e8⟩:=u0 ku (ak.fT _ _ _) (vs' := #[x]) (cs':=[.any]) (fun vs ar=>by rw [zJ] at ar;cases ar;rfl) (.cons _ _ _ _ (.any x) .nil) _ C;have Tb:∀ aT,aT≠b→(eg.setRow b #[x]).heap[aT]? = eg.heap[aT]?:=by
  intro aT dF;simp only [World.setRow];rw [am0,f0 (Ne.symm dF)]
 refine ⟨hle.trans cv,⟨fun aT dF aA=>(Tb aT ag).trans (aD.heap aT dF aA),aD.kl,aD.kM⟩,e8.sub (fun aT=>?_),cv,?_⟩
 ·by_cases e:aT=b
  ·subst e;exact .inr ao
  ·left;rw [ak.fk _ _ e,ak.fk _ _ e]
 ·simp only [World.setRow]
  rw [am0,f9 C,zJ];rfl
theorem KQ {w:World} {b:Nat} {v x:Value} {T:TypeId} (h:w.heap[b]? = some (.cells #[v] T (0,0))):w.setCell ⟨b,0,none⟩ x=w.setRow b #[x]:=by
 simp only [World.setCell,World.setRow];congr 1;refine au0 fun i=>?_
 rw [am0,am0];by_cases e:b=i
 ·subst e;rw [f9 C,f9 C,h];rfl
 ·rw [f0 e,f0 e]
theorem FT:∀ {rest:List PanicEntry},(∀ e∈rest,e.goexit=false)→rest.dropWhile (fun e => !e.goexit)=[]
 | [],_=>rfl
 | e::r,h=>by rw [List.dropWhile_cons,h e i5];simp only [ah3,ae2];exact FT fun e' he=>h e' (g7 _ he)
theorem ae.use {P:Program} {N:Nat} {c:Code} {Q:bX→Env→ak→Prop} {env:Env} {s:ak} (h:ae P N c Q env s) {b:Frame} {B:fx} {a:Act} {w:World} {p:bO} (a1:(P.funcs[b.fn]?).isSome=true) (aI:dq N B b.roundOf env s a w p) :
  jw P b c (jW N B b.roundOf s w p Q) a w:=h b B a w p a1 aI
theorem dh.frame {P:Program} {fv:af} {args:List af} {K L R:a6} {ace D:eo→a6→Prop} (h:dh P fv args K ace) (ao:aH L K R) (fO:∀ o aN,ace o aN→D o (aN++R)):dh P fv args L D:=
 fun s I=>(h.at I ao).mono fun o ai ⟨Tc,e,xz,aN,FU,FV⟩=>by
  subst FU;exact ⟨_,e,xz,fO o aN FV⟩
theorem aW.vL {P:Program} {Γ:cj} {N:Nat} {env:Env} {s:ak} {o:Oper} (aP:bM P Γ) {t yt e:TypeId} {x:Operand} {it:bL} {sz:Nat} {xs:List af} {own:bN} (ah:o.op = .binOp .eql t x (.const (.slice none 0 0)) yt)
  (aK:Γ.get? t=some it) (br:it.bE = .ay e) (ab:aJ env x=some (.ay sz xs own)) {X:af→ak→Prop} :
  aW P N o env s (fun r ai=>ai=s∧((r = .bool true∧xs=[])∨r = .bool false)) X:=by
 refine aW.jY (by simp [Go.Proofs.YtnafpeohfbglmaaGreat.gm,ah]) fun ro B a w p aI=>?_
 obtain ⟨info,d,U,ad,al,bd,bB,gN⟩:=aP.parts aK;have hu:=aI.aJ ab;have av:∃ e,d = .slice e:=by
  rw [br] at al;cases d<;>simp [eh] at al<;>exact ⟨_,rfl⟩
 obtain ⟨e',rfl⟩:=av;have cK:∀ q,(binOp .eql t (a.eval x) (.slice none 0 0)).run P w = .ok (.bool q) w→(∀ c,a.eval x ≠ .agg c)→(execOp a.eval o).run P w = .ok (.value (.bool q)) w:=by
  intro q bp aF;unfold execOp;rw [ah];refine gC ?_;show (do eqGuard .eql t x (.const (.slice none 0 0)) (a.eval x) (.slice none 0 0);binOp .eql t (a.eval x) (.slice none 0 0):Sem Value).run P w=_;rw [z2,r6 w ⟨fun _=>⟨_,rfl⟩,aF⟩,g6,bp]
 generalize a.eval x=dG at hu cK;cases hu with
 | hL _ _ _=>exact ⟨_,_,s,p,.bool true,cK true (uU C C (fun d=>by simp [Op.equalIn,run_underlying ad])).1 bc,.refl w p,.refl s w p,aI.wf,⟨rfl,.inl ⟨rfl,rfl⟩⟩,.bool _⟩
 | ib a _ _ _=>exact ⟨_,_,s,p,.bool false,cK false (uU C C (fun d=>by simp [Op.equalIn,run_underlying ad])).1 bc,.refl w p,.refl s w p,aI.wf,⟨rfl,.inr C⟩,.bool _⟩
 | ay g off n cap _ vs _ _ aA aB aF aC ao hm aD cu ah=>exact ⟨_,_,s,p,.bool false,cK false (uU C C (fun d=>by simp [Op.equalIn,run_underlying ad])).1 bc,.refl w p,.refl s w p,aI.wf,⟨rfl,.inr C⟩,.bool _⟩
def aL (J:ak→Prop) (P:Program) (Γ:cj) (N:Nat) (l:List Oper) (i:Nat) (rest:List Oper) (Q:bX→Env→ak→Prop) (env:Env) (s:ak):Prop:=
 qY l.toArray=true→l.drop i=rest→J s→bh J P Γ N l.toArray Q (bQ (2^i-1)) env s
theorem CC (i:Nat):(2^i-1)|||2^i=2^(i+1)-1:=by
 apply al1;intro j;rw [aj7,af9,af9,ai9];by_cases h:i=j
 ·subst h;simp
 ·by_cases ad:j<i
  ·simp [ad];omega
  ·simp [ad,h];omega
theorem vM {α:Type} {l:List α} {i:Nat} {o:α} {rest:List α} (h:l.drop i=o::rest):l[i]? = some o∧l.drop (i+1)=rest:=by
 have U:l[i]? = some o:=by
  have:=ac5 (fun x=>x[0]?) h;simpa using this
 refine ⟨U,?_⟩;have:l.drop (i+1)=(l.drop i).drop 1:=by rw [List.drop_drop]
 rw [this,h];rfl
theorem FW {l:List Oper} (du:qY l.toArray=true) {i:Nat} {o:Oper} (ah:l[i]? = some o):gZ l.toArray (bQ (2^i-1)) i:=by
 refine ⟨by simpa using (ac1.1 ah).1,?_,fun j aO=>?_⟩
 ·simp [bQ,af9]
 ·have:=(EM du).back i j aO
  simp [bQ,af9,this]
section
variable {J:ak→Prop} {P:Program} {Γ:cj} {N:Nat} {l:List Oper} {i:Nat} {rest:List Oper} {Q:bX→Env→ak→Prop} {env:Env} {s:ak} {o:Oper} {d:Nat}
theorem ae.ln (aP:bM P Γ) (hm:P.follows .mixedOrders=true) {id:Nat} (du:qY l.toArray=true) (h:aL (fun ai=>ai=s) P Γ N l 0 l Q env s):ae P N (.region id l.toArray true) Q env s:=
 ae.nu _ aP hm du (h du C C)
theorem ae.xj (aP:bM P Γ) (hm:P.follows .mixedOrders=true) {id:Nat} (du:qY l.toArray=true) (h:aL mY P Γ N l 0 l Q env s):ae P N (.region id l.toArray true) Q env s:=
 ae.nu _ aP hm du (h du C trivial)
theorem aL.nil (h:Q .normal env s):aL J P Γ N l i [] Q env s:=fun du jg _=>by
 refine bh.fin (fun j aO=>?_) h;have:l.length≤i:=by simpa using jg
 have aO:j<l.length:=by simpa using aO
 simp [bQ,af9];omega
theorem aL.still {v:af} (av:o.dst=some d) (aY:d<N) (ar:Still J P Γ N l.toArray o (bU l env o) v) (h:aL J P Γ N l (i+1) rest Q ((d,v)::env) s):aL J P Γ N l i (o::rest) Q env s:=fun du jg cZ=>by
 obtain ⟨ah,qg⟩:=vM jg;refine bh.still cZ i o d v (FW du ah) (by simpa using ah) av aY ar ?_;rw [oe,CC];exact h du qg cZ
theorem aL.step {v:af} (aK:vk Γ N l.toArray (bU l env o) o=some (d,v)) (h:aL J P Γ N l (i+1) rest Q ((d,v)::env) s):aL J P Γ N l i (o::rest) Q env s:=by
 obtain ⟨U,ad,al⟩:=BP (J:=J) (P:=P) aK;exact aL.still U ad al h
def runK (Γ:cj) (N:Nat) (ops:Array Oper):List Oper→Nat→Env→List Oper×Nat×Env
  | [],i,env=>([],i,env)
  | o::l,i,env=>match vk Γ N ops (ij env (looks ops o)) o with
    | some (d,v)=>runK Γ N ops l (i+1) ((d,v)::env)
    | none=>(o::l,i,env)
theorem aL.run {KR:List Oper} {Bj:Nat} {eN:Env} (h:runK Γ N l.toArray rest i env=(KR,Bj,eN)) (aD:aL J P Γ N l Bj KR Q eN s):aL J P Γ N l i rest Q env s:=by
 induction rest generalizing i env with
 | nil=>simp only [runK,Prod.mk.injEq] at h;obtain ⟨rfl,rfl,rfl⟩:=h;exact aD
 | cons o r aX=>
  simp only [runK] at h;split at h
  ·rename_i d v aK
   exact aL.step aK (aX h)
  ·simp only [Prod.mk.injEq] at h;obtain ⟨rfl,rfl,rfl⟩:=h;exact aD
theorem aL.pure {v:af} (au:cY l env o) (av:o.dst=some d) (aY:i9 d N=true) (ar:lb Γ o (bU l env o) v) (h:aL J P Γ N l (i+1) rest Q ((d,v)::env) s):aL J P Γ N l i (o::rest) Q env s:=
 aL.still av BS (.inl ⟨au,ar⟩) h
theorem aL.hV {v:af} (au:cY l env o) (av:o.dst=some d) (aY:i9 d N=true) (ar:u' Γ o (bU l env o)=some v) (h:aL J P Γ N l (i+1) rest Q ((d,v)::env) s):aL J P Γ N l i (o::rest) Q env s:=
 aL.pure au av aY (.x ar) h
theorem aL.calm {v:af} (au:cY l env o) (av:o.dst=some d) (aY:i9 d N=true) (ar:∀ s,J s→aW P N o (bU l env o) s (fun x ai=>x=v∧ai=s) (fun _ _=>False)) (h:aL J P Γ N l (i+1) rest Q ((d,v)::env) s):aL J P Γ N l i (o::rest) Q env s:=
 aL.still av BS (.inr (.inr ⟨au,ar⟩)) h
theorem aL.idx {t e:TypeId} {x y:Operand} {it aG:bL} {sz:Nat} {xs:List af} {own:bN} {k:IntKind} {n:Int} (j:Nat) {v:af} {cs:List af} (au:cY l env o) (av:o.dst=some d) (aY:i9 d N=true) (bV:o.op = .indexAddr t x y) (aK:Γ.get? t=some it) (br:it.bE = .ay e) (bH:Γ.get? e=some aG)
  (ab:aJ (bU l env o) x=some (.ay sz xs own)) (b':sz=aG.size) (ax:aJ (bU l env o) y=some (.int k n)) (eF:n=(j:Int)) (aO:xs[j]? = some v) (aF:cellsOf v=some cs)
  (h:aL J P Γ N l (i+1) rest Q ((d,.bs cs 0)::env) s):aL J P Γ N l i (o::rest) Q env s:=
 aL.pure au av aY (.idx j bV aK br bH ab b' ax eF aO aF) h
theorem aL.slice {t e:TypeId} {x:Operand} {gD aS iZ:Option Operand} {it aG:bL} {sz:Nat} {xs:List af} {own c5:bN} (a b:Nat) (au:cY l env o) (av:o.dst=some d) (aY:i9 d N=true)
  (bV:o.op = .slice t x gD aS iZ)
  (aK:Γ.get? t=some it) (br:it.bE = .ay e) (bH:Γ.get? e=some aG) (ab:aJ (bU l env o) x=some (.ay sz xs own)) (b':xs=[]∨sz=aG.size)
  (iz:(gD=none∧a=0)∨∃ y k,gD=some y∧aJ (bU l env o) y=some (.int k (a:Int))) (pT:(aS=none∧iZ=none∧b=xs.length)∨∃ y k,aS=some y∧aJ (bU l env o) y=some (.int k (b:Int)))
  (mV:(iZ=none∧c5 = .aZ)∨(∃ y k,iZ=some y∧aJ (bU l env o) y=some (.int k (b:Int))∧c5 = .clip)) (aB:a≤b) (c6:b≤xs.length)
  (h:aL J P Γ N l (i+1) rest Q ((d,.ay sz ((xs.take b).drop a) c5)::env) s):aL J P Γ N l i (o::rest) Q env s:=
 aL.pure au av aY (.slice a b bV aK br bH ab b' iz pT mV aB c6) h
theorem aL.dX {f:FuncId} {fC:Array Operand} {c0:Array TypeId} {xs:List af} {v:af} (au:cY l env o) (av:o.dst=some d) (aY:i9 d N=true)
  (bV:o.op = .call { callee := .value (.func f),args:=fC,argTypes:=c0 }) (a8:fy (bU l env o) fC.toList=some xs) (aF:aU P f xs v) (h:aL J P Γ N l (i+1) rest Q ((d,v)::env) s):aL J P Γ N l i (o::rest) Q env s:=
 aL.calm au av aY (fun s _=>(aW.call bV (fv := .func f [] []) rfl a8 (hG.fa (R:=fun o ai=>o = .ret v∧ai=s) (by simpa using aF s))).mono (fun x ai h=>by cases h.1;exact ⟨rfl,h.2⟩) (fun x ai h=>by cases h.1)) h
theorem aL.ll {g:Operand} {fv:af} {fC:Array Operand} {c0:Array TypeId} {xs:List af} {v:af} (au:cY l env o) (av:o.dst=some d) (aY:i9 d N=true)
  (bV:o.op = .call { callee := .value g,args:=fC,argTypes:=c0 }) (ar:aJ (bU l env o) g=some fv) (a8:fy (bU l env o) fC.toList=some xs) (aF:ee P fv xs v) (h:aL J P Γ N l (i+1) rest Q ((d,v)::env) s):aL J P Γ N l i (o::rest) Q env s:=
 aL.calm au av aY (fun s _=>(aW.call bV ar a8 (aF s)).mono (fun x ai h=>by cases h.1;exact ⟨rfl,h.2⟩) (fun x ai h=>by cases h.1)) h
theorem aL.ey {L R:a6} (aP:bM P Γ) (I:Ok s L) {t T:TypeId} {x:Operand} {dM:bL} {b off:Nat} {cs:List af} {v:af} (au:cY l env o) (av:o.dst=some d) (aY:i9 d N=true)
  (bV:o.op = .load t x) (aK:Γ.get? t=some dM) (ab:aJ (bU l env o) x=some (.ptr b off)) (ao:bl L (.own b) (.box T cs) R) (ar:hD dM cs off=some v)
  (h:aL (fun ai=>ai=aQ s L) P Γ N l (i+1) rest Q ((d,v)::env) (aQ s L)):aL (fun ai=>ai=aQ s L) P Γ N l i (o::rest) Q env (aQ s L):=
 aL.calm au av aY (fun _ e=>by subst e;exact aW.ey aP I bV aK ab ao ar) h
theorem aL.split (t:Nat) {b:Bool} (ar:env.get? t=some (.bool b)) (ep:b=true→aL J P Γ N l i rest Q ((t,.bool true)::env) s) (oh:b=false→aL J P Γ N l i rest Q ((t,.bool false)::env) s):aL J P Γ N l i rest Q env s:=by
 have U:∀ u,Env.get? ((t,.bool b)::env) u=env.get? u:=fun u=>by
  rw [Env.get?];split
  ·rename_i hu;rw [← ab' hu];exact ar.symm
  ·rfl
 intro du jg cZ;refine bh.congr _ U ?_;cases b with
 | true=>exact ep C du jg cZ
 | false=>exact oh C du jg cZ
theorem aL.hq {t:Nat} {b:Bool} (ao:JK l.toArray o=some t) (ar:env.get? t=some (.bool b)) (ep:b=true→aL J P Γ N l i (o::rest) Q ((t,.bool true)::env) s) (oh:b=false→aL J P Γ N l i (o::rest) Q ((t,.bool false)::env) s):aL J P Γ N l i (o::rest) Q env s:=
 aL.split t ar ep oh
theorem aL.same (b:Bool) (au:guardOf l.toArray (bU l env o) o=some b) (h:aL J P Γ N l i (o::rest) Q env s):aL J P Γ N l i (o::rest) Q env s:=h
theorem KS {l:List Oper} (du:qY l.toArray=true) {i:Nat} {o:Oper} (jg:l.drop i=[o]):∀ j,gZ l.toArray (bQ (2^i-1)) j→j=i:=fun j aO=>by
 obtain ⟨ah,qg⟩:=vM jg;have ad:l.length≤i+1:=by simpa using qg
 have al:j<l.length:=by simpa using aO.1
 have bd:=aO.2.1;simp [bQ,af9] at bd;omega
theorem KT {l:List Oper} {i:Nat} {o:Oper} (jg:l.drop i=[o]):∀ j,j<l.toArray.size→dR (bQ (2^i-1)) i j=true:=fun j aO=>by
 obtain ⟨ah,qg⟩:=vM jg;have ad:l.length≤i+1:=by simpa using qg
 have al:j<l.length:=by simpa using aO
 rw [oe,CC];simp [bQ,af9];omega
theorem aL.last {K X:af→ak→Prop} (au:cY l env o) (av:o.dst=some d) (aY:i9 d N=true) (lx:kt l.toArray i=true) (h:aW P N o (bU l env o) s K X)
  (aD:∀ x ai,K x ai→Q .normal ((d,x)::env) ai) (ab:∀ x ai,X x ai→Q (.panic x) [] ai):aL J P Γ N l i [o] Q env s:=fun du jg _=>by
 obtain ⟨ah,qg⟩:=vM jg;have iM:=FW du ah;have ff:=KS du jg;refine bh.split (fun _=>K) (fun _=>X) ⟨i,iM.1,iM.2.1⟩ (fun j o' aO cr=>?_) (fun j o' vl cr x ai bm=>by have:=ff j vl;subst this;exact .inr (BR lx)) (fun j o' cX aO cr cc x ai bm=>?_) (fun j o' aO cr cc x ai bm=>?_) (fun j o' aO cr x ai ic=>ab x ai ic)
 ·have:=ff j aO;subst this
  have cr:l[j]? = some o':=by simpa using cr
  rw [ah] at cr;cases cr;exact ⟨au,h,fun cX cc=>by rw [av] at cc;cases cc;simpa [Nat.blt_eq] using aY⟩
 ·have:=ff j aO;subst this
  have cr:l[j]? = some o':=by simpa using cr
  rw [ah] at cr;cases cr;rw [av] at cc;cases cc;exact bh.fin (KT jg) (aD x ai bm)
 ·have:=ff j aO;subst this
  have cr:l[j]? = some o':=by simpa using cr
  rw [ah] at cr;cases cr;rw [av] at cc;cases cc
theorem aL.FX {K X:af→ak→Prop} (au:cY l env o) (av:o.dst=none) (lx:kt l.toArray i=true) (h:aW P N o (bU l env o) s K X)
  (aD:∀ x ai,K x ai→Q .normal env ai) (ab:∀ x ai,X x ai→Q (.panic x) [] ai):aL J P Γ N l i [o] Q env s:=fun du jg _=>by
 obtain ⟨ah,qg⟩:=vM jg;have iM:=FW du ah;have ff:=KS du jg;refine bh.split (fun _=>K) (fun _=>X) ⟨i,iM.1,iM.2.1⟩ (fun j o' aO cr=>?_) (fun j o' vl cr x ai bm=>by have:=ff j vl;subst this;exact .inr (BR lx)) (fun j o' cX aO cr cc x ai bm=>?_) (fun j o' aO cr cc x ai bm=>?_) (fun j o' aO cr x ai ic=>ab x ai ic)
 ·have:=ff j aO;subst this
  have cr:l[j]? = some o':=by simpa using cr
  rw [ah] at cr;cases cr;exact ⟨au,h,fun cX cc=>by rw [av] at cc;cases cc⟩
 ·have:=ff j aO;subst this
  have cr:l[j]? = some o':=by simpa using cr
  rw [ah] at cr;cases cr;rw [av] at cc;cases cc
 ·have:=ff j aO;subst this
  have cr:l[j]? = some o':=by simpa using cr
  rw [ah] at cr;cases cr;exact bh.fin (KT jg) (aD x ai bm)
theorem aL.cN {L R:a6} (aP:bM P Γ) (I:Ok s L) {t T:TypeId} {x y:Operand} {dM:bL} {b off:Nat} {cs us:List af} {v:af} (au:cY l env o) (av:o.dst=none) (lx:kt l.toArray i=true)
  (bV:o.op = .store t x y) (aK:Γ.get? t=some dM) (ab:aJ (bU l env o) x=some (.ptr b off)) (ax:aJ (bU l env o) y=some v)
  (ar:cellsOf v=some us) (hu:ad0 us.length dM.size=true) (U:us.all e4=true) (ao:bl L (.own b) (.box T cs) R) (fl:Nat.ble (off+us.length) cs.length=true)
  (h:Ok s ((.own b,.box T (eO off us cs))::R)→Q .normal env (aQ s ((.own b,.box T (eO off us cs))::R))):aL J P Γ N l i [o] Q env (aQ s L):=
 aL.FX au av lx (aW.cN aP I bV aK ab ax ar hu U ao fl (X:=fun _ _=>False)) (fun x ai ⟨U,ad⟩=>by subst U;exact h ad) (fun _ _ h=>h.elim)
theorem aL.bZ {L R K:a6} {ace:eo→a6→Prop} {f:FuncId} {fC:Array Operand} {c0:Array TypeId} {xs:List af} (au:cY l env o) (av:o.dst=some d) (aY:i9 d N=true) (lx:kt l.toArray i=true)
  (bV:o.op = .call { callee := .value (.func f),args:=fC,argTypes:=c0 }) (a8:fy (bU l env o) fC.toList=some xs) (h:bz P f xs K ace) (I:Ok s L) (ao:aH L K R)
  (aD:∀ x aN,ace (.ret x) aN→Ok s (aN++R)→Q .normal ((d,x)::env) (aQ s (aN++R))) (ab:∀ x aN,ace (.panic x) aN→Ok s (aN++R)→Q (.panic x) [] (aQ s (aN++R))):aL J P Γ N l i [o] Q env (aQ s L):=
 aL.last au av aY lx (aW.bZ bV a8 h I ao) (fun x ai ⟨aN,U,ad,al⟩=>by subst U;exact aD x aN al ad) (fun x ai ⟨aN,U,ad,al⟩=>by subst U;exact ab x aN al ad)
theorem aL.xA {K X:af→ak→Prop} (au:cY l env o) (av:o.dst=some d) (aY:i9 d N=true) (aC:eD l.toArray (2^i-1) (idxs 0 l)=[i]) (h:aW P N o (bU l env o) s K X) (aO:∀ x ai,K x ai→J ai)
  (aD:∀ x ai,K x ai→aL J P Γ N l (i+1) rest Q ((d,x)::env) ai) (ab:∀ x ai,X x ai→Q (.panic x) [] ai):aL J P Γ N l i (o::rest) Q env s:=fun du jg _=>by
 obtain ⟨ah,qg⟩:=vM jg;refine bh.one aC (by simpa using ah) av aY au h (fun x ai bm => .inl (aO x ai bm)) (fun x ai bm=>?_) ab;rw [CC];exact aD x ai bm du qg (aO x ai bm)
theorem aL.Td {K X:af→ak→Prop} (au:cY l env o) (av:o.dst=none) (aC:eD l.toArray (2^i-1) (idxs 0 l)=[i]) (h:aW P N o (bU l env o) s K X) (aO:∀ x ai,K x ai→J ai)
  (aD:∀ x ai,K x ai→aL J P Γ N l (i+1) rest Q env ai) (ab:∀ x ai,X x ai→Q (.panic x) [] ai):aL J P Γ N l i (o::rest) Q env s:=fun du jg _=>by
 obtain ⟨ah,qg⟩:=vM jg;refine bh.xd aC (by simpa using ah) av au h (fun x ai bm => .inl (aO x ai bm)) (fun x ai bm=>?_) ab;rw [CC];exact aD x ai bm du qg (aO x ai bm)
theorem aL.KU {L:a6} (aP:bM P Γ) (I:Ok s L) {t:TypeId} {dM:bL} {z:af} {cs:List af} (au:cY l env o) (av:o.dst=some d) (aY:i9 d N=true) (aC:eD l.toArray (2^i-1) (idxs 0 l)=[i])
  (bV:o.op = .alloc t) (aK:Γ.get? t=some dM) (bP:ho dM.zero=some z) (aF:cellsOf z=some cs)
  (h:∀ b,Ok s ((.own b,.box t cs)::L)→aL mY P Γ N l (i+1) rest Q ((d,.ptr b 0)::env) (aQ s ((.own b,.box t cs)::L))):aL mY P Γ N l i (o::rest) Q env (aQ s L):=
 aL.xA au av aY aC (aW.dO aP I bV aK bP aF (X:=fun _ _=>False)) (fun _ _ _=>trivial) (fun x ai ⟨b,U,ad,al⟩=>by subst U;subst ad;exact h b al) (fun _ _ h=>h.elim)
theorem aL.storeT {L R:a6} (aP:bM P Γ) (I:Ok s L) {t T:TypeId} {x y:Operand} {dM:bL} {b off:Nat} {cs us:List af} {v:af} (au:cY l env o) (av:o.dst=none) (aC:eD l.toArray (2^i-1) (idxs 0 l)=[i])
  (bV:o.op = .store t x y) (aK:Γ.get? t=some dM) (ab:aJ (bU l env o) x=some (.ptr b off)) (ax:aJ (bU l env o) y=some v)
  (ar:cellsOf v=some us) (hu:ad0 us.length dM.size=true) (U:us.all e4=true) (ao:bl L (.own b) (.box T cs) R) (fl:Nat.ble (off+us.length) cs.length=true)
  (h:Ok s ((.own b,.box T (eO off us cs))::R)→aL mY P Γ N l (i+1) rest Q env (aQ s ((.own b,.box T (eO off us cs))::R))):aL mY P Γ N l i (o::rest) Q env (aQ s L):=
 aL.Td au av aC (aW.cN aP I bV aK ab ax ar hu U ao fl (X:=fun _ _=>False)) (fun _ _ _=>trivial) (fun x ai ⟨U,ad⟩=>by subst U;exact h ad) (fun _ _ h=>h.elim)
theorem aL.loadT {L R:a6} (aP:bM P Γ) (I:Ok s L) {t T:TypeId} {x:Operand} {dM:bL} {b off:Nat} {cs:List af} {v:af} (au:cY l env o) (av:o.dst=some d) (aY:i9 d N=true) (aC:eD l.toArray (2^i-1) (idxs 0 l)=[i])
  (bV:o.op = .load t x) (aK:Γ.get? t=some dM) (ab:aJ (bU l env o) x=some (.ptr b off)) (ao:bl L (.own b) (.box T cs) R) (ar:hD dM cs off=some v)
  (h:aL mY P Γ N l (i+1) rest Q ((d,v)::env) (aQ s L)):aL mY P Γ N l i (o::rest) Q env (aQ s L):=
 aL.xA au av aY aC (aW.ey aP I bV aK ab ao ar (X:=fun _ _=>False)) (fun _ _ _=>trivial) (fun x ai ⟨U,ad⟩=>by subst U;subst ad;exact h) (fun _ _ h=>h.elim)
theorem aL.ka {L R K:a6} {ace:eo→a6→Prop} {f:FuncId} {fC:Array Operand} {c0:Array TypeId} {xs:List af} (au:cY l env o) (av:o.dst=some d) (aY:i9 d N=true) (aC:eD l.toArray (2^i-1) (idxs 0 l)=[i])
  (bV:o.op = .call { callee := .value (.func f),args:=fC,argTypes:=c0 }) (a8:fy (bU l env o) fC.toList=some xs) (h:bz P f xs K ace) (I:Ok s L) (ao:aH L K R)
  (aD:∀ x aN,ace (.ret x) aN→Ok s (aN++R)→aL mY P Γ N l (i+1) rest Q ((d,x)::env) (aQ s (aN++R))) (ab:∀ x aN,ace (.panic x) aN→Ok s (aN++R)→Q (.panic x) [] (aQ s (aN++R))):aL mY P Γ N l i (o::rest) Q env (aQ s L):=
 aL.xA au av aY aC (aW.bZ bV a8 h I ao) (fun _ _ _=>trivial) (fun x ai ⟨aN,U,ad,al⟩=>by subst U;exact aD x aN al ad) (fun x ai ⟨aN,U,ad,al⟩=>by subst U;exact ab x aN al ad)
end
def xB (i:bL):Bool:=match i.bE with
 | .struct _=>false
 | .arr _ _=>false
 | .other=>false
 | _=>true
theorem Te {cs:List af} {off:Nat} {v:af} (h:cs[off]? = some v):pN off cs=some (v::cs.drop (off+1)):=by
 induction off generalizing cs with
 | zero=>
  cases cs with
  | nil=>cases h
  | cons x r=>simp at h;subst h;rfl
 | succ n aX=>
  cases cs with
  | nil=>cases h
  | cons x r=>
   have:=aX (cs:=r) gT;simp only [pN,List.drop_succ_cons];exact this
theorem pe {i:bL} {cs:List af} {off:Nat} {v:af} (U:xB i=true) (h:cs[off]? = some v):hD i cs off=some v:=by
 unfold hD xB at *;rw [Te h];simp only;split at U<;>simp_all
section
variable {J:ak→Prop} {P:Program} {Γ:cj} {N:Nat} {ops:Array Oper} {l:List Oper} {i:Nat} {rest:List Oper} {Q:bX→Env→ak→Prop} {env:Env} {s:ak} {o:Oper} {d:Nat}
theorem aW.KV (aP:bM P Γ) {t:TypeId} {x:Operand} {dM:bL} {off:Nat} {cs:List af} {v:af} (bV:o.op = .load t x) (aK:Γ.get? t=some dM) (ab:aJ env x=some (.bs cs off)) (ar:hD dM cs off=some v) :
  aW P N o env s (fun x ai=>x=v∧ai=s) (fun _ _=>False):=
 aW.mO (by simp [gm,bV]) fun ro B a w p aI=>I0 aP aI bV aK ab ar
theorem aa.zK (aP:bM P Γ) {t:TypeId} {x:Operand} {dM:bL} {off:Nat} {cs:List af} {v:af} (au:guardOf ops env o=some true) (av:o.dst=some d) (aY:i9 d N=true) (bV:o.op = .load t x) (aK:Γ.get? t=some dM) (ab:aJ env x=some (.bs cs off)) (U:xB dM=true) (ar:cs[off]? = some v)
  (h:aa P N ops rest Q ((d,v)::env) s):aa P N ops (o::rest) Q env s:=
 aa.op au av aY (aW.KV aP bV aK ab (pe U ar)) (fun x ai ⟨U,ad⟩=>by subst U;subst ad;exact h) (fun _ _ h=>h.elim)
theorem aL.zK (aP:bM P Γ) {t:TypeId} {x:Operand} {dM:bL} {off:Nat} {cs:List af} {v:af} (au:cY l env o) (av:o.dst=some d) (aY:i9 d N=true) (bV:o.op = .load t x) (aK:Γ.get? t=some dM) (ab:aJ (bU l env o) x=some (.bs cs off)) (U:xB dM=true) (ar:cs[off]? = some v)
  (h:aL J P Γ N l (i+1) rest Q ((d,v)::env) s):aL J P Γ N l i (o::rest) Q env s:=
 aL.calm au av aY (fun s _=>aW.KV aP bV aK ab (pe U ar)) h
theorem aa.k2 {L R:a6} (aP:bM P Γ) (I:Ok s L) {t T:TypeId} {x:Operand} {dM:bL} {b off:Nat} {cs:List af} {v:af} (au:guardOf ops env o=some true) (av:o.dst=some d) (aY:i9 d N=true) (bV:o.op = .load t x) (aK:Γ.get? t=some dM) (ab:aJ env x=some (.ptr b off)) (ao:bl L (.own b) (.box T cs) R) (U:xB dM=true) (ar:cs[off]? = some v)
  (h:aa P N ops rest Q ((d,v)::env) (aQ s L)):aa P N ops (o::rest) Q env (aQ s L):=
 aa.ey aP I au av aY bV aK ab ao (pe U ar) h
theorem aL.k2 {L R:a6} (aP:bM P Γ) (I:Ok s L) {t T:TypeId} {x:Operand} {dM:bL} {b off:Nat} {cs:List af} {v:af} (au:cY l env o) (av:o.dst=some d) (aY:i9 d N=true) (bV:o.op = .load t x) (aK:Γ.get? t=some dM) (ab:aJ (bU l env o) x=some (.ptr b off)) (ao:bl L (.own b) (.box T cs) R) (U:xB dM=true) (ar:cs[off]? = some v)
  (h:aL (fun ai=>ai=aQ s L) P Γ N l (i+1) rest Q ((d,v)::env) (aQ s L)):aL (fun ai=>ai=aQ s L) P Γ N l i (o::rest) Q env (aQ s L):=
 aL.ey aP I au av aY bV aK ab ao (pe U ar) h
theorem aL.lp (aP:bM P Γ) {t e:TypeId} {x y:Operand} {it aG:bL} {k:IntKind} {len off:Nat} {cs:List af} {z:Int} (j:Nat) (au:cY l env o) (av:o.dst=some d) (aY:i9 d N=true) (ah:o.op = .indexAddr t x y) (aK:Γ.get? t=some it) (br:it.bE = .arr len e) (bH:Γ.get? e=some aG) (ab:aJ (bU l env o) x=some (.bs cs off)) (ax:aJ (bU l env o) y=some (.int k z)) (eF:z=(j:Int)) (aO:j<len)
  (h:aL J P Γ N l (i+1) rest Q ((d,.bs cs (off+j*aG.size))::env) s):aL J P Γ N l i (o::rest) Q env s:=
 aL.calm au av aY (fun s _=>aW.lp aP ah aK br bH ab ax eF aO) h
theorem aL.arr (aP:bM P Γ) {t e:TypeId} {x y:Operand} {it aG:bL} {k:IntKind} {len b off:Nat} {z:Int} (j:Nat) (au:cY l env o) (av:o.dst=some d) (aY:i9 d N=true) (ah:o.op = .indexAddr t x y) (aK:Γ.get? t=some it) (br:it.bE = .arr len e) (bH:Γ.get? e=some aG) (ab:aJ (bU l env o) x=some (.ptr b off)) (ax:aJ (bU l env o) y=some (.int k z)) (eF:z=(j:Int)) (aO:j<len)
  (h:aL J P Γ N l (i+1) rest Q ((d,.ptr b (off+j*aG.size))::env) s):aL J P Γ N l i (o::rest) Q env s:=
 aL.calm au av aY (fun s _=>aW.arr aP ah aK br bH ab ax eF aO) h
theorem aL.lY {L R:a6} (aP:bM P Γ) (I:Ok s L) {t T:TypeId} {x y:Operand} {dM:bL} {b off:Nat} {cs us:List af} {v:af} (cs':List af) (au:cY l env o) (av:o.dst=none) (lx:kt l.toArray i=true)
  (bV:o.op = .store t x y) (aK:Γ.get? t=some dM) (ab:aJ (bU l env o) x=some (.ptr b off)) (ax:aJ (bU l env o) y=some v)
  (ar:cellsOf v=some us) (hu:ad0 us.length dM.size=true) (U:us.all e4=true) (ao:bl L (.own b) (.box T cs) R) (fl:off+us.length≤cs.length) (he:eO off us cs=cs')
  (h:Ok s ((.own b,.box T cs')::R)→Q .normal env (aQ s ((.own b,.box T cs')::R))):aL J P Γ N l i [o] Q env (aQ s L):=by
 subst he;exact aL.cN aP I au av lx bV aK ab ax ar hu U ao (by simpa [Nat.ble_eq] using fl) h
theorem aa.lY {L R:a6} (aP:bM P Γ) (I:Ok s L) {t T:TypeId} {x y:Operand} {dM:bL} {b off:Nat} {cs us:List af} {v:af} (cs':List af) (au:guardOf ops env o=some true) (av:o.dst=none)
  (bV:o.op = .store t x y) (aK:Γ.get? t=some dM) (ab:aJ env x=some (.ptr b off)) (ax:aJ env y=some v)
  (ar:cellsOf v=some us) (hu:ad0 us.length dM.size=true) (U:us.all e4=true) (ao:bl L (.own b) (.box T cs) R) (fl:off+us.length≤cs.length) (he:eO off us cs=cs')
  (h:Ok s ((.own b,.box T cs')::R)→aa P N ops rest Q env (aQ s ((.own b,.box T cs')::R))):aa P N ops (o::rest) Q env (aQ s L):=by
 subst he;exact aa.cN aP I au av bV aK ab ax ar hu U ao (by simpa [Nat.ble_eq] using fl) h
theorem rj {off:Nat} {v:af}:∀ {cs:List af},eO off [v] cs=cs.set off v:=by
  induction off with
  | zero=>intro cs;cases cs<;>rfl
  | succ n aX=>intro cs;cases cs with
    | nil=>rfl
    | cons x r=>exact ac5 (x :: ·) (aX (cs:=r))
theorem aa.iO {f:FuncId} {fC:Array Operand} {c0:Array TypeId} {xs ys:List af} {v:af} (au:guardOf ops env o=some true) (av:o.dst=some d) (aY:i9 d N=true)
  (bV:o.op = .call { callee := .value (.func f),args:=fC,argTypes:=c0 }) (a8:fy env fC.toList=some xs) (h:aU P f ys v) (aB:cM xs ys) (aD:aa P N ops rest Q ((d,v)::env) s):aa P N ops (o::rest) Q env s:=
 aa.dX au av aY bV a8 (aU.args aB h) aD
theorem aL.iO {f:FuncId} {fC:Array Operand} {c0:Array TypeId} {xs ys:List af} {v:af} (au:cY l env o) (av:o.dst=some d) (aY:i9 d N=true)
  (bV:o.op = .call { callee := .value (.func f),args:=fC,argTypes:=c0 }) (a8:fy (bU l env o) fC.toList=some xs) (aF:aU P f ys v) (aB:cM xs ys) (h:aL J P Γ N l (i+1) rest Q ((d,v)::env) s):aL J P Γ N l i (o::rest) Q env s:=
 aL.dX au av aY bV a8 (aU.args aB aF) h
theorem ae.tP {L R:a6} (I:Ok s L) (b:Nat) {dt:ds} (ao:bl L (.own b) dt R) (aP:bM P Γ) (hm:P.follows .mixedOrders=true) {id:Nat} (du:qY l.toArray=true) (h:aL (fun ai=>ai b=some dt) P Γ N l 0 l Q env (aQ s L)):ae P N (.region id l.toArray true) Q env (aQ s L):=
 ae.nu _ aP hm du (h du C (ao.get I))
theorem aL.q3 (aP:bM P Γ) {t T:TypeId} {x:Operand} {dM:bL} {b off:Nat} {cs:List af} {v:af} (au:cY l env o) (av:o.dst=some d) (aY:i9 d N=true)
  (bV:o.op = .load t x) (aK:Γ.get? t=some dM) (ab:aJ (bU l env o) x=some (.ptr b off)) (ar:hD dM cs off=some v)
  (h:aL (fun ai=>ai b=some (.box T cs)) P Γ N l (i+1) rest Q ((d,v)::env) s):aL (fun ai=>ai b=some (.box T cs)) P Γ N l i (o::rest) Q env s:=
 aL.calm au av aY (fun s cZ=>aW.tr aP bV aK ab cZ ar) h
theorem aL.zL {L R K:a6} {ace:eo→a6→Prop} {b:Nat} {dt:ds} {g:Operand} {fv:af} {fC:Array Operand} {c0:Array TypeId} {xs:List af} (au:cY l env o) (av:o.dst=some d) (aY:i9 d N=true) (aC:eD l.toArray (2^i-1) (idxs 0 l)=[i])
  (bV:o.op = .call { callee := .value g,args:=fC,argTypes:=c0 }) (ar:aJ (bU l env o) g=some fv) (a8:fy (bU l env o) fC.toList=some xs) (h:dh P fv xs K ace) (I:Ok s L) (ao:aH L K R)
  (aO:∀ x aN,ace (.ret x) aN→∃ dk,bl (aN++R) (.own b) dt dk)
  (aD:∀ x aN,ace (.ret x) aN→Ok s (aN++R)→aL (fun ai=>ai b=some dt) P Γ N l (i+1) rest Q ((d,x)::env) (aQ s (aN++R))) (ab:∀ x aN,ace (.panic x) aN→Ok s (aN++R)→Q (.panic x) [] (aQ s (aN++R))):aL (fun ai=>ai b=some dt) P Γ N l i (o::rest) Q env (aQ s L):=
 aL.xA au av aY aC (aW.gr bV ar a8 h I ao) (fun x ai ⟨aN,U,ad,al⟩=>by subst U;obtain ⟨dk,gY⟩:=aO x aN al;exact gY.get ad) (fun x ai ⟨aN,U,ad,al⟩=>by subst U;exact aD x aN al ad) (fun x ai ⟨aN,U,ad,al⟩=>by subst U;exact ab x aN al ad)
theorem aL.Tf {L R K:a6} {ace:eo→a6→Prop} {g:Operand} {fv:af} {fC:Array Operand} {c0:Array TypeId} {xs:List af} (au:cY l env o) (av:o.dst=some d) (aY:i9 d N=true) (aC:eD l.toArray (2^i-1) (idxs 0 l)=[i])
  (bV:o.op = .call { callee := .value g,args:=fC,argTypes:=c0 }) (ar:aJ (bU l env o) g=some fv) (a8:fy (bU l env o) fC.toList=some xs) (h:dh P fv xs K ace) (I:Ok s L) (ao:aH L K R)
  (aD:∀ x aN,ace (.ret x) aN→Ok s (aN++R)→aL mY P Γ N l (i+1) rest Q ((d,x)::env) (aQ s (aN++R))) (ab:∀ x aN,ace (.panic x) aN→Ok s (aN++R)→Q (.panic x) [] (aQ s (aN++R))):aL mY P Γ N l i (o::rest) Q env (aQ s L):=
 aL.xA au av aY aC (aW.gr bV ar a8 h I ao) (fun _ _ _=>trivial) (fun x ai ⟨aN,U,ad,al⟩=>by subst U;exact aD x aN al ad) (fun x ai ⟨aN,U,ad,al⟩=>by subst U;exact ab x aN al ad)
end
theorem Tg {w:World} {p:bO} {s:ak} (b5:df w p s) {vs:List Value} {xs:List af} {sz cap:Nat} {e:TypeId} {cur:Array Value} (aC:bD w p vs xs)
    (ao:∀ v∈vs,v.cells.size=sz) (n8:cur.size=cap*sz) (u3:cur.toList.take (xs.length*sz)=flat vs) (j1:xs.length≤cap) (hm:xs.length≤9223372036854775807) :
    ∃ bg,s w.heap.size=none∧c8 w p (w.alloc (.cells cur e)) bg∧Kept s (s.set w.heap.size (.row e sz xs.length)) w p (w.alloc (.cells cur e)) bg ∧
      df (w.alloc (.cells cur e)) bg (s.set w.heap.size (.row e sz xs.length))∧Rel (w.alloc (.cells cur e)) bg (.slice (some ⟨w.heap.size,0,none⟩) xs.length cap) (.ay sz xs (.own w.heap.size)):=by
  have aA:s w.heap.size=none:=by
    cases h:s w.heap.size with
    | none=>rfl
    | some o'=>exact absurd (b5.obj _ _ h).lt ag
  let bg:bO:=fun b o=>p b o∨(b=w.heap.size∧o<xs.length*sz)
  have n9:(w.alloc (.cells cur e)).heap[w.heap.size]? = some (.cells cur e):=tj w _;have hold:∀ b,b<w.heap.size→(w.alloc (.cells cur e)).heap[b]? = w.heap[b]? := fun b an=>lJ w _ b an
  have hle:c8 w p (w.alloc (.cells cur e)) bg:=c8.of_heap C C C bc (fun _ _ h => .inl h) b5.lt hold;have hlen:=u2 ao;have hmul:xs.length*sz≤cap*sz:=ak2 _ j1;refine ⟨bg,aA,hle,⟨fun b an _=>hold b an,fun b an ao=>by rw [ak.fk _ _ ag];exact ao,fun b o an _ aE=>by rcases aE with aE|⟨rfl,_⟩;exact aE;omega⟩,?_,?_⟩
  · have au:df (w.alloc (.cells cur e)) bg s:=b5.grow hle hold (fun b o an aE=>by rcases aE with aE|⟨rfl,_⟩;exact aE;omega) (fun b o aE=>by
      rcases aE with aE|⟨rfl,_⟩
      · have:=b5.lt b o aE;simp;omega
      · simp)
    refine ⟨fun b o an=>?_,au.lt⟩;by_cases e':b=w.heap.size
    · subst e'
      rw [ak.fT] at an;cases an;refine ⟨cur,n9,by omega,⟨cap,n8⟩,fun o=>⟨fun aE=>?_,fun ah => .inr ⟨rfl,ah⟩⟩⟩;rcases aE with aE|⟨_,ah⟩
      · exact absurd (b5.lt _ _ aE) ag
      · exact ah
    · rw [ak.fk _ _ e'] at an;exact au.obj b o an
  · refine .ay _ 0 _ _ _ vs _ _ bc rfl ?_ (aC.mono hle) ao hm j1 (fun h=>by cases h) (fun b an=>?_)
    · intro i v ar
      have aS:i<xs.length*sz:=by
        have:=(ac1.1 ar).1;rw [hlen,aC.length] at this;exact this
      refine ⟨.inr ⟨rfl,by omega⟩,?_⟩;rw [ad8,jq n9];rw [← u3,af',f9 aS] at ar;simpa using ar
    · cases an
      exact ⟨rfl,rfl,e,by simp only [World.kk,n9,n8]⟩
theorem KW {z:Value} (h:z.cells = #[z]) (n:Nat):(madeCells z.cells n).toList=t6 n z:=by
 refine List.ext_getElem? fun i=>?_
 unfold madeCells;rw [h];simp only [Array.toList_map,Array.toList_range,ad7,ar7];by_cases aS:i<n
 ·rw [List.getElem?_range aS,f9 aS]
  simp [Nat.mod_one]
 ·rw [List.getElem?_eq_none cO,f0 aS];rfl
section
variable {P:Program} {Γ:cj} {N:Nat} {ops:Array Oper} {Q:bX→Env→ak→Prop} {env:Env} {s:ak} {l:List Oper} {o:Oper} {d:Nat} {L R:a6}
theorem KX (aP:bM P Γ) {t e:TypeId} {it aG:bL} (aK:Γ.get? t=some it) (br:it.bE = .ay e) (bH:Γ.get? e=some aG) (mW pf:IntKind) (n c:Nat) (sL:n≤c) (an:c*aG.bytes≤140737488355328) (en:c≤9223372036854775807) (w:World) :
  (Instr.makeSlice t (.int mW (n:Int)) (.int pf (c:Int))).run P w = .ok (.slice (some ⟨w.heap.size,0,none⟩) n c) (w.alloc (.cells (madeCells aG.zero.cells (c*aG.size)) e)):=by
 obtain ⟨info,d,g1,g2,g3,-⟩:=aP.parts aK;obtain ⟨jx,jZ,cv,db,e8,ew,jy,iY⟩:=aP.parts bH;have av:d = .slice e:=by rw [br] at g3;cases d<;>simp [eh] at g3;rw [g3]
 subst av;have dF:(jx.bytes:Int)*(c:Int)≤281474976710656:=by
  rw [jy];have:((aG.bytes*c:Nat):Int)≤281474976710656:=by rw [Nat.mul_comm];omega
  rwa [Int.natCast_mul] at this
 have:=run_make (P:=P) w t e jx aG.zero g2 cv iY mW pf (n:Int) (c:Int) ag ag dF ag;rw [ac3,ac3,ew] at this;exact this
theorem aW.xC (aP:bM P Γ) (I:Ok s L) {t e:TypeId} {x y:Operand} {it aG:bL} {mW pf:IntKind} {z:af} (n:Nat) (ah:o.op = .makeSlice t x y) (aK:Γ.get? t=some it) (br:it.bE = .ay e) (bH:Γ.get? e=some aG) (U:aG.size=1)
  (tQ:aG.zero.oneCell'=true) (bP:ho aG.zero=some z) (ab:aJ env x=some (.int mW (n:Int))) (ax:aJ env y=some (.int pf (n:Int))) (an:n*aG.bytes≤140737488355328) (en:n≤9223372036854775807) {X:af→ak→Prop} :
  aW P N o env (aQ s L) (fun r ai=>∃ b,r=ea b n n∧ai=aQ s ((.own b,.box e (t6 n z))::L)∧Ok s ((.own b,.box e (t6 n z))::L)) X:=by
 refine aW.jY iN fun ro B a w p aI=>?_
 have fN:=aI.aJ ab;have fe:=aI.aJ ax;generalize ei:a.eval x=dG at fN;generalize e9:a.eval y=fJ at fe;cases fN;cases fe;have cK:=KX aP aK br bH mW pf n n (i0 _) an en w;have tp:=zo tQ;have zM:=KW tp (n*aG.size);rw [U,ah2] at cK zM
 obtain ⟨ao,hle,aD,ku⟩:=qR aI.wf (.cells (madeCells aG.zero.cells n) e (0,0)) (.box e (t6 n z)) (fun w' h2 ar fq=>⟨_,h2,by
  rw [zM];exact bD.replicate (pO bP) n,fun o aE=>absurd (aI.wf.lt _ _ aE) ag⟩)
 refine ⟨.slice (some ⟨w.heap.size,0,none⟩) n n,_,_,p,_,?_,hle,aD,ku,⟨w.heap.size,rfl,rfl,ao,I⟩,.hl _⟩;unfold execOp;rw [ah];simp only [ei,e9];exact gC cK
theorem aa.xC (aP:bM P Γ) (I:Ok s L) {t e:TypeId} {x y:Operand} {it aG:bL} {mW pf:IntKind} {z:af} (n:Nat) (au:guardOf ops env o=some true) (av:o.dst=some d) (aY:i9 d N=true) (ah:o.op = .makeSlice t x y) (aK:Γ.get? t=some it) (br:it.bE = .ay e) (bH:Γ.get? e=some aG) (U:aG.size=1)
  (tQ:aG.zero.oneCell'=true) (bP:ho aG.zero=some z) (ab:aJ env x=some (.int mW (n:Int))) (ax:aJ env y=some (.int pf (n:Int))) (an:n*aG.bytes≤140737488355328) (en:n≤9223372036854775807)
  (h:∀ b,Ok s ((.own b,.box e (t6 n z))::L)→aa P N ops l Q ((d,ea b n n)::env) (aQ s ((.own b,.box e (t6 n z))::L))):aa P N ops (o::l) Q env (aQ s L):=by
 refine aa.op au av aY (aW.xC aP I n ah aK br bH U tQ bP ab ax an en (X:=fun _ _=>False)) ?_ (fun _ _ h=>h.elim);rintro r ai ⟨b,rfl,rfl,ad⟩;exact h b ad
theorem aW.FY (aP:bM P Γ) (I:Ok s L) {t e:TypeId} {x y:Operand} {it aG:bL} {mW pf:IntKind} {z:af} (n c:Nat) (ah:o.op = .makeSlice t x y) (aK:Γ.get? t=some it) (br:it.bE = .ay e) (bH:Γ.get? e=some aG) (U:aG.size=1)
  (tQ:aG.zero.oneCell'=true) (bP:ho aG.zero=some z) (ab:aJ env x=some (.int mW (n:Int))) (ax:aJ env y=some (.int pf (c:Int))) (sL:n≤c) (an:c*aG.bytes≤140737488355328) (en:c≤9223372036854775807) {X:af→ak→Prop} :
  aW P N o env (aQ s L) (fun r ai=>∃ b,r = .ay 1 (t6 n z) (.own b)∧ai=aQ s ((.own b,.row e 1 n)::L)∧Ok s ((.own b,.row e 1 n)::L)) X:=by
 refine aW.jY iN fun ro B a w p aI=>?_
 have fN:=aI.aJ ab;have fe:=aI.aJ ax;generalize ei:a.eval x=dG at fN;generalize e9:a.eval y=fJ at fe;cases fN;cases fe;have cK:=KX aP aK br bH mW pf n c sL an en w;have tp:=zo tQ;have zM:=KW tp (c*aG.size);rw [U,ah2] at cK zM
 obtain ⟨bg,dV,dg,dB,ma,sl⟩:=Tg (e:=e) (sz:=1) (cap:=c) (cur:=madeCells aG.zero.cells c) aI.wf (bD.replicate (pO (w:=w) (p:=p) bP) n) (fun v ar=>by
  obtain ⟨_,rfl⟩:=ar4.1 ar
  rw [tp];rfl) (by rw [size_madeCells,ah2]) (by
  rw [zM,ad',ah2,List.take_replicate,sx (fun v ar=>by obtain ⟨_,rfl⟩:=ar4.1 ar;exact tQ),ak1 sL]) (by rw [ad'];exact sL) tD
 rw [ad'] at dB ma sl;refine ⟨.slice (some ⟨w.heap.size,0,none⟩) n c,_,_,bg,_,?_,dg,dB,ma,⟨w.heap.size,rfl,rfl,dV,I⟩,sl⟩;unfold execOp;rw [ah];simp only [ei,e9];exact gC cK
theorem aa.FY (aP:bM P Γ) (I:Ok s L) {t e:TypeId} {x y:Operand} {it aG:bL} {mW pf:IntKind} {z:af} (n c:Nat) (au:guardOf ops env o=some true) (av:o.dst=some d) (aY:i9 d N=true) (ah:o.op = .makeSlice t x y) (aK:Γ.get? t=some it) (br:it.bE = .ay e) (bH:Γ.get? e=some aG) (U:aG.size=1)
  (tQ:aG.zero.oneCell'=true) (bP:ho aG.zero=some z) (ab:aJ env x=some (.int mW (n:Int))) (ax:aJ env y=some (.int pf (c:Int))) (sL:n≤c) (an:c*aG.bytes≤140737488355328) (en:c≤9223372036854775807)
  (h:∀ b,Ok s ((.own b,.row e 1 n)::L)→aa P N ops l Q ((d,.ay 1 (t6 n z) (.own b))::env) (aQ s ((.own b,.row e 1 n)::L))):aa P N ops (o::l) Q env (aQ s L):=by
 refine aa.op au av aY (aW.FY aP I n c ah aK br bH U tQ bP ab ax sL an en (X:=fun _ _=>False)) ?_ (fun _ _ h=>h.elim);rintro r ai ⟨b,rfl,rfl,ad⟩;exact h b ad
end
def KY (P:Program) {α:Type} (dm a2:α→af) (nB:α→Prop) (l:Nat) (Go:List α→a6→Prop) (fm:a6→Prop) (fr:af→a6→Prop):Prop:=
 ∀ x rem K,Go (x::rem) K→dh P (ld l) [dm x,a2 x] K (fun o aN=>(o = .ret (.bool true)∧nB x∧Go rem aN)∨(o = .ret (.bool false)∧fm aN)∨∃ v,o = .panic v∧fr v aN)
def FZ (P:Program) (f:FuncId) (first cap:List af) (mu:a6) {α:Type} (dm a2:α→af) (nB:α→Prop) (xs:List α):Prop:=
 ∀ (l:Nat) (Go:List α→a6→Prop) (fm:a6→Prop) (fr:af→a6→Prop),KY P dm a2 nB l Go fm fr→∀ K,Go xs K →
  bz P f (first++([ld l]++cap)) (mu++K) (fun o aN=>(o = .ret (.cg [])∧(Go [] aN∨fm aN))∨∃ v,o = .panic v∧fr v aN)
section
variable {P:Program} {N:Nat} {Q:bX→Env→ak→Prop} {env:Env} {s:ak} {L R:a6}
theorem ae.KZ {α:Type} {dm a2:α→af} {nB:α→Prop} {xs:List α} {t u:Tmp} {g:Operand} {gU body:Code} {f:FuncId} {first cap:List af} {mu:a6} (I:Ok s L) (au:aJ env g=some (.func f first cap)) (aY:t<N) (e7:u<N)
  (nx:FZ P f first cap mu dm a2 nB xs) (ao:aH L mu R) (acv:List α→a6→Prop) (J:Code→a6→Prop) (sC:af→a6→Prop) (bo:acv xs R)
  (r2:∀ s x rem K,acv (x::rem) K→Ok s K→ae P N gU (bX.andThen (ae P N body (BV (At s (fun K=>nB x∧acv rem K)) (fun j=>At s (J j)) (fun v=>At s (sC v)))) (fun _ _ _=>False)) ((u,a2 x)::(t,dm x)::env) (aQ s K))
  (aA:∀ K,acv [] K→Ok s K→Q .normal env (aQ s K))
  (aO:∀ j K,J j K→Ok s K→ae P N j Q env (aQ s K))
  (ab:∀ v K,sC v K→Ok s K→Q (.panic v) env (aQ s K)):ae P N (.rangeFunc g #[t,u] gU body) Q env (aQ s L):=by
 refine ae.JC au (by intro bI c4;simp at c4;rcases c4 with rfl|rfl;exact aY;exact e7) fun l r aB Fl=>?_
 have Fm:Ok s ((.own l,.loop r env)::L):=⟨aB,I⟩;have om:KY P dm a2 nB l (fun rem K=>∃ aN,K=(.own l,.loop r env)::aN∧acv rem aN) (fun K=>∃ j aN,K=(.own l,.loop (p2 r j) env)::aN∧J j aN) (fun v K=>∃ aN,K=(.own l,.loop (busy r) env)::aN∧sC v aN):=by
  rintro x rem _ ⟨K,rfl,aw⟩ ai zs;refine (Fl [dm x,a2 x] _ (At ai (fun K=>nB x∧acv rem K)) (fun j=>At ai (J j)) (fun v=>At ai (sC v)) (ak.fT _ _ _) C ?_).less ?_
  ·have:=ak.yS (aQ ai K) l (.loop r env) zs.1
   show ae P N gU _ _ (((aQ ai K).set l (.loop r env)).del l);rw [this];exact r2 ai x rem K aw zs.2
  ·have key:∀ {L K R:a6} {o:ds},aQ ai L l=none→Ok ai L→aH L K R→ak.Sub (aQ ai ((.own l,o)::K)) ((aQ ai L).set l o)∧Ok ai ((.own l,o)::K):=by
    intro L K R o U ad al;exact (aH.cons bl.here al).sub (L:=(.own l,o)::L) ⟨U,ad⟩
   rintro o eA (⟨rfl,dw,U,rfl,L,aN,R,rfl,ad,bd,al⟩|⟨rfl,j,dw,U,rfl,L,aN,R,rfl,ad,bd,al⟩|⟨v,dw,rfl,U,rfl,L,aN,R,rfl,ad,bd,al⟩)
   ·obtain ⟨cv,db⟩:=key U ad bd (o := .loop r env)
    exact ⟨_,cv,(.own l,.loop r env)::aN,rfl,db,.inl ⟨rfl,al.1,aN,rfl,al.2⟩⟩
   ·obtain ⟨cv,db⟩:=key U ad bd (o := .loop (p2 r j) env)
    exact ⟨_,cv,(.own l,.loop (p2 r j) env)::aN,rfl,db,.inr (.inl ⟨rfl,j,aN,rfl,al⟩)⟩
   ·obtain ⟨cv,db⟩:=key U ad bd (o := .loop (busy r) env)
    exact ⟨_,cv,(.own l,.loop (busy r) env)::aN,rfl,db,.inr (.inr ⟨v,rfl,aN,rfl,al⟩)⟩
 have cS:=(nx l _ _ _ om _ ⟨R,rfl,bo⟩).at Fm ((ao.there (e:=(.own l,.loop r env))).app (aH.ez _));refine cS.mono ?_;rintro o eA ⟨M,rfl,iA,aN,rfl,h⟩;rw [d8] at iA ⊢;rcases h with ⟨rfl,⟨lS,rfl,h⟩|⟨j,lS,rfl,h⟩⟩|⟨v,rfl,lS,rfl,h⟩
 ·exact .inl ⟨aQ s lS,iA.1,rfl,aA lS h iA.2⟩
 ·exact .inr ⟨j,aQ s lS,iA.1,rfl,aO j lS h iA.2⟩
 ·exact ⟨aQ s lS,_,iA.1,rfl,ab v lS h iA.2⟩
end
section
variable {J:ak→Prop} {P:Program} {Γ:cj} {N:Nat} {l:List Oper} {i:Nat} {rest:List Oper} {Q:bX→Env→ak→Prop} {env:Env} {s:ak} {o:Oper} {d:Nat}
theorem aL.shl {t yt:TypeId} {x y:Operand} {k k':IntKind} {a b:Int} (r:Int) (au:cY l env o) (av:o.dst=some d) (aY:i9 d N=true) (ah:o.op = .binOp .shl t x y yt) (ab:aJ (bU l env o) x=some (.int k a)) (ax:aJ (bU l env o) y=some (.int k' b)) (an:0≤b) (aC:k.wrap (a*2^(min b.toNat k.bits))=r)
  (h:aL J P Γ N l (i+1) rest Q ((d,.int k r)::env) s):aL J P Γ N l i (o::rest) Q env s:=
 aL.calm au av aY (fun _ _=>aW.shl ah ab ax an aC) h
theorem aL.shr {t yt:TypeId} {x y:Operand} {k k':IntKind} {a b:Int} (r:Int) (au:cY l env o) (av:o.dst=some d) (aY:i9 d N=true) (ah:o.op = .binOp .shr t x y yt) (ab:aJ (bU l env o) x=some (.int k a)) (ax:aJ (bU l env o) y=some (.int k' b)) (an:0≤b) (aC:a.fdiv (2^(min b.toNat k.bits))=r)
  (h:aL J P Γ N l (i+1) rest Q ((d,.int k r)::env) s):aL J P Γ N l i (o::rest) Q env s:=
 aL.calm au av aY (fun _ _=>aW.shr ah ab ax an aC) h
theorem aL.bits {op:BinOp} {t yt:TypeId} {x y:Operand} {k:IntKind} {a b:Int} (r:Int) (au:cY l env o) (av:o.dst=some d) (aY:i9 d N=true) (ah:o.op = .binOp op t x y yt) (ab:aJ (bU l env o) x=some (.int k a)) (ax:aJ (bU l env o) y=some (.int k b)) (aC:bitsOf op k a b=some r)
  (h:aL J P Γ N l (i+1) rest Q ((d,.int k r)::env) s):aL J P Γ N l i (o::rest) Q env s:=
 aL.calm au av aY (fun _ _=>aW.bits ah ab ax aC) h
end
section
variable {J:ak→Prop} {P:Program} {Γ:cj} {N:Nat} {l:List Oper} {Q:bX→Env→ak→Prop} {env:Env} {s:ak} {o:Oper} {d m:Nat} {L R:a6}
theorem bh.mm (i:Nat) (aP:bM P Γ) (I:Ok s L) {t dH eW:TypeId} {x y z:Operand} {it gp:bL} {b:Nat} {es dn:List (af×af)} {k v:af} (aC:eD l.toArray m (idxs 0 l)=[i]) (ah:l.toArray[i]? = some o) (av:o.dst=none)
  (au:cY l env o) (bV:o.op = .mapUpdate t x y z∨o.op = .insert t x y z) (aK:Γ.get? t=some it) (br:it.bE = .map dH eW) (iX:Γ.get? dH=some gp) (ab:aJ (bU l env o) x=some (.map b)) (ax:aJ (bU l env o) y=some k) (bP:aJ (bU l env o) z=some v)
  (ao:bl L (.own b) (.map es) R) (a1:jO gp.bE k=true) (aE:k9 es k v=some dn)
  (aO:Ok s ((.own b,.map dn)::R)→J (aQ s ((.own b,.map dn)::R))∨kt l.toArray i=true)
  (h:Ok s ((.own b,.map dn)::R)→bh J P Γ N l.toArray Q (bQ (m|||2^i)) env (aQ s ((.own b,.map dn)::R))):bh J P Γ N l.toArray Q (bQ m) env (aQ s L):=
 bh.xd aC ah av au (aW.mm aP I bV aK br iX ab ax bP ao a1 aE (X:=fun _ _=>False)) (fun x ai ⟨U,ad⟩=>by subst U;exact aO ad) (fun x ai ⟨U,ad⟩=>by subst U;exact h ad) (fun _ _ h=>h.elim)
end
section
variable {P:Program} {b:Frame} {a:Act} {k:List Item} {cs:List Frame} {w:World}
theorem zN {c:Code}:step P (lone (b.atR a (.code (.scope c)::k)) cs w) = .next (lone (b.atR a (.code c :: .inScope c::k)) cs w):=
 step_lone_go (by simp [stepG,stepG.exec,Frame.atR])
theorem Th {c:Code}:step P (lone (b.atR a (.inScope c::k)) cs w) = .next (lone (b.atR a k) cs w):=
 step_lone_go (by simp [stepG,stepG.exec,Frame.atR])
theorem Ti {Q:gM→Act→World→Prop} {c:Code} (h:jw P b c Q a w):jw P b (.scope c) Q a w:=by
 intro k cs;obtain ⟨e,ix,w₁,bp,fI⟩:=h (.inScope c::k) cs;cases e with
 | normal=>exact ⟨.normal,ix,w₁,bp,.head zN (Steps.trans fI (.one Th))⟩
 | exit id=>
  refine ⟨.exit id,ix,w₁,bp,fun k' aD => .head zN (fI.1 k' (by simpa [exitTo] using aD)),fun aD=>?_⟩;obtain ⟨k₁,U,ad⟩:=fI.2 (by simpa [exitTo] using aD);exact ⟨k₁,U,.head zN ad⟩
 | ret=>obtain ⟨k₁,ao⟩:=fI;exact ⟨.ret,ix,w₁,bp,k₁,.head zN ao⟩
 | panic dr=>obtain ⟨k₁,ao⟩:=fI;exact ⟨.panic dr,ix,w₁,bp,k₁,.head zN ao⟩
theorem Tj {Q:gM→Act→World→Prop} {l:Nat} (h:Q .normal a w):jw P b (.label l) Q a w:=
 fun _ _=>⟨.normal,a,w,h,.one stepR_label⟩
end
section
variable {P:Program} {N:Nat} {Q:bX→Env→ak→Prop} {env:Env} {s:ak}
theorem ae.scope {c:Code} (h:ae P N c Q env s):ae P N (.scope c) Q env s:=fun b B a w p eU aI=>Ti (h b B a w p eU aI)
theorem ae.label {l:Nat} (h:Q .normal env s):ae P N (.label l) Q env s:=fun _ _ _ _ _ _ aI=>Tj (.here .normal h aI)
end
def iq (g:List bJ):af := .ay 4 (g.map eS) .aZ
def pg:Option Int→List Int→Bool
 | _,[]=>true
 | none,x::r=>decide (x≥0)&&pg (some x) r
 | some p,x::r=>decide (x≥0)&&(decide (p<x)&&pg (some x) r)
theorem K0:∀ (r:List Int) (x:Int),q8 (x::r)=(decide (x≥0)&&pg (some x) r)
  | [],x=>by rw [q8,pg,Bool.and_true]
  | y::r,x=>by
    rw [q8,pg,K0 r y];cases decide (x<y)<;>cases decide (y≥0)<;>simp
theorem Tk (l:List Int):q8 l=pg none l:=by
 cases l with
 | nil=>rfl
 | cons x r=>rw [K0,pg]
theorem oA {len i:Nat} {x:bJ} (h:x.atom ≠ -1):lV len i x=true↔0≤x.atom∧x.atom<7∧x.no>i∧x.no<len∧x.yes>i∧x.yes<len∧x.ms.length=0:=by
 unfold lV;rw [f0 h];simp
theorem sM {len i:Nat} {x:bJ} (h:x.atom = -1):lV len i x=true↔x.no=0∧x.yes=0∧x.ms.length≤16∧q8 x.ms=true:=by
 unfold lV;rw [f9 h];simp
theorem F0 (g:List bJ) (au:g.length<bt):aU d0 68 [iq g] (.bool (je g)):=by
 have an:=bC;refine aU.bn aj Tryz.func68 C C fun s I=>?_
 unfold iq;have dZ:je g=je g:=rfl
 conv at dZ=>rhs;unfold je
 refine dz ?_;by_cases g1:g.length=0
 ·refine aa.dW 10 C (by simp [g1]) ?_
  rw [show decide (1≤g.length)=false by simp [g1],f7] at dZ;rw [dZ];refine dT ?_;exact bA I
 refine aa.dc 10 C (by simp;intro e;exact g1 (by rw [e];rfl)) ?_;rw [show decide (1≤g.length)=true by simp;omega,f4] at dZ;refine ga ?_;refine ae.cond C (fun g2=>?_) (fun g2=>?_)
 ·rw [show decide (g.length≤300)=false by simp at g2 ⊢;omega,f7] at dZ
  rw [dZ];refine gO ?_;exact bA I
 have g2:g.length≤300:=by simp at g2;omega
 rw [i6 g2,f4] at dZ;rw [dZ];refine j5 ?_;refine ae.cl [0,15,16] C I (σ:=Nat) (fun j=>[(17,.int .i64 (j:Int))]) (fun _=>[]) (fun j=>j≤g.length∧sF g.length 0 g=sF g.length j (g.drop j)) (fun j=>g.length-j) 0 ⟨g9 _,rfl⟩ (cI C) a7 ?_;rintro j ⟨aO,aw⟩ I
 try simp only at aO aw I ⊢
 refine ck ?_;refine ae.cond C (fun az=>?_) (fun a'=>?_);rotate_left
 ·have a':j=g.length:=by simp at a';omega
  rw [eR ag,sF] at aw;rw [aw];refine eH ?_;exact bA I
 have az:j<g.length:=by simpa using az
 obtain ⟨x,ab,ct⟩:=cf (f:=eS) az;rw [drop_cons ab,sF] at aw;unfold eS hy bk at ct
 repeat (first|(refine B8 I ?_;clear I;intro I)|refine aa.dO aj I rfl rfl rfl rfl rfl rfl rfl (fun cy I=>?_))
 refine ae.cond C (fun a8=>?_) (fun a8=>?_)
 ·have a8:x.atom ≠ -1:=by simpa using a8
  refine cm I ?_;intro I;by_cases U:x.atom<0
  ·refine aa.dW 28 C (i6 U) ?_
   refine fB ?_;rw [aw,show lV g.length j x=false from ae9.2 (fun h=>by have:=(oA a8).1 h;omega),f7];skip;exact bA I
  refine aa.dc 28 C (H1 U) ?_;refine cm I ?_;intro I;by_cases ad:x.atom≥7
  ·refine aa.dW 33 C (i6 ad) ?_
   refine fB ?_;rw [aw,show lV g.length j x=false from ae9.2 (fun h=>by have:=(oA a8).1 h;omega),f7];skip;exact bA I
  refine aa.dc 33 C (H1 ad) ?_;refine cm I ?_;intro I;by_cases al:(if x.yes<x.no then x.yes else x.no)≤(j:Int)
  ·refine aa.dW 42 C (i6 al) ?_
   refine fB ?_;rw [aw,show lV g.length j x=false from ae9.2 (fun h=>by have:=(oA a8).1 h;omega),f7];skip;exact bA I
  refine aa.dc 42 C (H1 al) ?_;refine cm I ?_;intro I;by_cases bd:(if x.yes>x.no then x.yes else x.no)≥(g.length:Int)
  ·refine aa.dW 52 C cO ?_
   refine fB ?_;rw [aw,show lV g.length j x=false from ae9.2 (fun h=>by have:=(oA a8).1 h;omega),f7];skip;exact bA I
  refine aa.dc 52 C cO ?_;refine cm I ?_;intro I;refine ae.cond C (fun bB=>?_) (fun bB=>?_)
  ·have bB:x.ms.length≠0:=by simp at bB;omega
   rw [aw,show lV g.length j x=false from ae9.2 (fun h=>by have:=(oA a8).1 h;omega),f7];refine kx ?_;exact bA I
  have bB:x.ms.length=0:=by simp at bB;rw [bB];rfl
  rw [(oA a8).2 ag,f4] at aw;refine bG ?_;exact bF.mk (j+1) I ⟨az,aw⟩ cC a7 zm
 have a8:x.atom = -1:=by simpa using a8
 refine cm I ?_;intro I;by_cases U:x.no=0;rotate_left
 ·refine aa.dW 61 C vy ?_
  refine fB ?_;rw [aw,show lV g.length j x=false from ae9.2 (fun h=>by have:=(sM a8).1 h;omega),f7];skip;exact bA I
 refine aa.dc 61 C vy ?_;refine cm I ?_;intro I;by_cases ad:x.yes=0;rotate_left
 ·refine aa.dW 66 C rX ?_
  refine fB ?_;rw [aw,show lV g.length j x=false from ae9.2 (fun h=>by have:=(sM a8).1 h;omega),f7];skip;exact bA I
 refine aa.dc 66 C rX ?_;refine cm I ?_;intro I;refine ae.cond C (fun al=>?_) (fun al=>?_)
 ·rw [aw,show lV g.length j x=false from ae9.2 (fun h=>by have:=(sM a8).1 h;simp at al;omega),f7]
  refine kx ?_;exact bA I
 have al:x.ms.length≤16:=by simp at al;omega
 refine cm I ?_;intro I;refine ae.cl [0,15,16,17,4,73,74] C I (σ:=Nat) (fun k=>[(75,.int .i64 (k:Int))]) (fun _=>[(.own cy,.box 69 (hy x))]) (fun k=>k≤x.ms.length∧q8 x.ms=pg (if k=0 then none else x.ms[k-1]?) (x.ms.drop k)) (fun k=>x.ms.length-k) 0 ⟨g9 _,Tk _⟩ (cI C) (by simp only [hy];exact a7) ?_;rintro k ⟨aD,bm⟩ I
 try simp only [hy,bk] at aD bm I ⊢
 refine ck ?_;refine ae.cond C (fun cU=>?_) (fun et=>?_);rotate_left
 ·have et:k=x.ms.length:=by simp at et;omega
  rw [eR ag,pg] at bm;rw [(sM a8).2 ⟨U,ad,al,bm⟩,f4] at aw;refine bG ?_;exact bF.mk (j+1) I ⟨az,aw⟩ cC a7 zm
 have cU:k<x.ms.length:=by simpa using cU
 obtain ⟨y,ax,da⟩:=cf (f:=bb) cU;rw [drop_cons ax] at bm;unfold bb at da;refine ej ?_;by_cases bd:y<0
 ·refine aa.dW 82 C (i6 bd) ?_
  have bm:q8 x.ms=false:=by
   rw [bm];cases (if k=0 then none else x.ms[k-1]?)<;>rw [pg,show decide (y≥0)=false by simp;omega,f7]
  rw [aw,show lV g.length j x=false from ae9.2 (fun h=>by have:=((sM a8).1 h).2.2.2;rw [bm] at this;cases this),f7];refine fB ?_;exact bA I
 refine aa.dc 82 C (H1 bd) ?_;have oR:decide (y≥0)=true:=by simp;omega
 cases k with
 | zero=>
  rw [f9 C,pg,oR,f4] at bm;refine bG ?_;exact bF.mk 1 I ⟨cU,by rw [f0 ag];simpa [ax] using bm⟩ (by repeat (first|exact trivial|refine ⟨⟨_,rfl,aM⟩,?_⟩|refine ⟨⟨_,rfl,aR.of_eq Fe⟩,?_⟩)) a7 (by show x.ms.length-1<x.ms.length-0;omega)
 | succ k=>
 rw [f0 ag,Nat.add_sub_cancel] at bm;obtain ⟨z,bP,xD⟩:=cf (f:=bb) (show k<x.ms.length by omega);rw [bP,pg,oR,f4] at bm;unfold bb at xD;refine dD ?_;refine aa.dW 85 C bc ?_;refine cm I ?_;intro I;refine aa.idx aj k C C C C C C C C C C (by rw [er ag ag];push_cast;omega) xD C ?_;refine ga ?_;refine ae.cond C (fun bB=>?_) (fun bB=>?_)
 ·rw [show decide (z<y)=false by simp at bB ⊢;omega,f7] at bm
  rw [aw,show lV g.length j x=false from ae9.2 (fun h=>by have:=((sM a8).1 h).2.2.2;rw [bm] at this;cases this),f7];refine kx ?_;exact bA I
 rw [show decide (z<y)=true by simp at bB ⊢;omega,f4] at bm;refine gg ?_;exact bF.mk (k+2) I ⟨cU,by rw [f0 ag];simpa [ax] using bm⟩ (by repeat (first|exact trivial|refine ⟨⟨_,rfl,aM⟩,?_⟩|refine ⟨⟨_,rfl,aR.of_eq Cb⟩,?_⟩)) a7 (by show x.ms.length-(k+2)<x.ms.length-(k+1);omega)
section
variable {P:Program} {Γ:cj} {N:Nat} {ops:Array Oper} {Q:bX→Env→ak→Prop} {env:Env} {s:ak} {l:List Oper} {o:Oper} {d:Nat} {L R:a6}
theorem K1 (aP:bM P Γ) {w:World} {p:bO} {S:ak} (b5:df w p S) {t bI e ty:TypeId} {it cz aG:bL} {bW:Nat} {olds:List Value} {xs ys:List af} {dx:bN} {base:Option Addr} {n cap:Nat} {p7:Value}
  (aK:Γ.get? t=some it) (br:it.bE = .ay e) (c4:Γ.get? bI=some cz) (dC:∀ k,cz.bE ≠ .int k) (bH:Γ.get? e=some aG) (U:aG.size=1) (d':ad0 aG.zero.cells.size aG.size=true)
  (aC:bD w p olds xs) (aA:n=xs.length) (se:(Builtin.firstCells 1 n (.slice base n cap)).run P w.drew = .ok olds.toArray w.drew) (ax:Rel w p p7 (.ay bW ys dx)) (c':bW=1) (dS:ys.all e4=true)
  (az:cap<n+ys.length) (an:(n+ys.length)*aG.bytes≤140737488355328) (en:n+ys.length≤9223372036854775807) :
  ∃ aT b8 cs' w',(Builtin.append_ #[t,bI] ty #[.slice base n cap,p7]).run P w = .ok (.slice (some ⟨aT,0,none⟩) (n+ys.length) b8) w'∧S aT=none∧c8 w p w' p∧Kept S (S.set aT (.box e cs')) w p w' p∧df w' p (S.set aT (.box e cs')) ∧
   cs'.length=b8∧n+ys.length≤b8∧cs'.take (n+ys.length)=xs++ys:=by
 obtain ⟨info,d,g1,g2,g3,-⟩:=aP.parts aK;obtain ⟨l8,cX,dV,dg,dB,-⟩:=aP.parts c4;obtain ⟨jx,jZ,cv,db,e8,ew,jy,iY⟩:=aP.parts bH;have av:d = .slice e:=by rw [br] at g3;cases d<;>simp [eh] at g3;rw [g3]
 subst av;have cc:∀ k,cX ≠ .int k:=fun k e'=>by subst e';exact dC k dB.symm
 obtain ⟨us,h3,oX,jz,jQ,sg,sh,si⟩:=pS ax (.inr c');have mc:=h3.length;subst c';have sy:flat us=us:=sx (pQ h3 dS);have fl:=growslice_fits (need:=n+ys.length) (old:=cap) (bytes:=aG.bytes) az an;have cK:=yW (ty:=ty) w g2 dg cc cv iY (base:=base) (sLen:=n) (sCap:=cap) (m:=ys.length) (olds:=olds) (news:=us) (jz P)
  (by rw [ew,U];exact se) (by rw [ew,U];(conv=>rhs;rw [← sy]);exact jQ P w.drew (fun _ _ _=>rfl)) az ag (by rw [jy];exact fl)
 have mS:n+ys.length≤grownCap w (n+ys.length) cap e:=by simp [grownCap,Question.cut]
 have gh:olds.length=n:=by rw [aC.length,aA]
 have n6:=ab' d';generalize sf:(Builtin.zeroCells aG.zero.cells (grownCap w (n+ys.length) cap e-(n+ys.length))).toList=aV at cK;have mT:aV.length=grownCap w (n+ys.length) cap e-(n+ys.length):=by
  rw [← sf,ac6];simp [Builtin.zeroCells,n6,U]
 generalize grownCap w (n+ys.length) cap e=G at cK mS mT;have vA:=w1 b5
 obtain ⟨ao,hle,aD,ku⟩:=qR vA (.cells (olds++us++aV).toArray e (0,0)) (.box e (xs++ys++aV.map fun _ => .any)) (fun w' h2 ar fq=>⟨_,h2,by
  refine bD.append (bD.append (fq _ _ (show bD w.drew p olds xs from aC.mono kn)) (fq _ _ (h3.mono kn))) (bD.zn aV),fun o aE=>absurd (b5.lt _ _ aE) (by show ¬ w.heap.size<w.heap.size;omega)⟩)
 rw [show w.drew.heap.size=w.heap.size from rfl] at ao aD ku;refine ⟨w.heap.size,G,xs++ys++aV.map (fun _=>af.any),_,cK,ao,kn.trans hle,(uR (w:=w) (p:=p)).trans (kn (w:=w) (p:=p)).size aD,ku,?_,mS,?_⟩
 ·simp only [d9,f5,mT];omega
 ·rw [ag2 cO,ae8 cO]
theorem aW.F1 (aP:bM P Γ) (I:Ok s L) {t bI e:TypeId} {x y:Operand} {it cz aG:bL} {ed bW:Nat} {ys:List af} {dx:bN}
  (ah:o.op = .call { callee := .builtin .append,args := #[x,y],argTypes := #[t,bI] }) (aK:Γ.get? t=some it) (br:it.bE = .ay e) (c4:Γ.get? bI=some cz) (dC:∀ k,cz.bE ≠ .int k)
  (bH:Γ.get? e=some aG) (U:aG.size=1) (d':ad0 aG.zero.cells.size aG.size=true) (ab:aJ env x=some (.ay ed [] .nil)) (ax:aJ env y=some (.ay bW ys dx)) (c':bW=1) (dS:ys.all e4=true) (cp:1≤ys.length) (an:ys.length*aG.bytes≤140737488355328) (en:ys.length≤9223372036854775807)
  {X:af→ak→Prop}:aW P N o env (aQ s L) (fun r ai=>Grown s L e ys.length ys r ai) X:=by
 refine aW.jY iN fun ro B a w p aI=>?_
 have fN:=aI.aJ ab;have fe:=aI.aJ ax;have eC:=fun val w'=>tE (P:=P) (a:=a) (val:=val) (w:=w) (w':=w') ah
 generalize ei:a.eval x=dG at fN eC;generalize e9:a.eval y=fJ at fe eC;have sA:dG = .slice none 0 0:=by
  cases fN with
  | hL=>rfl
  | ib a _ _ h=>rcases h with h|h<;>cases h
  | ay g off n cap _ vs _ _ aA=>exact absurd C aA
 subst sA
 obtain ⟨aT,b8,cs',w',fg,gf,hg,iL,lM,lN,mq,mr⟩:=K1 (ty:=o.type) aP aI.wf (base:=none) (n:=0) (cap:=0) (olds:=[]) (xs:=[]) aK br c4 dC bH U d' .nil rfl (by
  have:=run_firstCells_none (P:=P) w.drew 1 0 0 0
  simpa using this) fe c' dS ag (by simpa using an) ag
 rw [ad8] at fg mq mr;exact ⟨_,w',_,p,_,eC _ _ fg,hg,iL,lM,⟨aT,b8,cs',rfl,rfl,⟨gf,I⟩,lN,mq,by simpa using mr⟩,.hl _⟩
theorem aW.F2 (aP:bM P Γ) (I:Ok s L) {t bI e:TypeId} {x y:Operand} {it cz aG:bL} {b n cap bW:Nat} {cs ys:List af} {dx:bN}
    (ah:o.op = .call { callee := .builtin .append,args := #[x,y],argTypes := #[t,bI] }) (aK:Γ.get? t=some it) (br:it.bE = .ay e) (c4:Γ.get? bI=some cz) (dC:∀ k,cz.bE ≠ .int k)
    (bH:Γ.get? e=some aG) (U:aG.size=1) (d':ad0 aG.zero.cells.size aG.size=true) (ab:aJ env x=some (ea b n cap)) (ao:bl L (.own b) (.box e cs) R) (cu:cs.length=cap) (aA:n≤cap) (ih:(cs.take n).all e4=true)
    (ax:aJ env y=some (.ay bW ys dx)) (c':bW=1) (dS:ys.all e4=true) (an:(n+ys.length)*aG.bytes≤140737488355328) (en:n+ys.length≤9223372036854775807)
    {X:af→ak→Prop}:aW P N o env (aQ s L) (fun r ai=>Grown s R e (n+ys.length) (cs.take n++ys) r ai) X:=by
  obtain ⟨b7,bR,eE⟩:=ao.perm I;refine aW.jY iN fun ro B a w p aI=>?_
  have fN:=aI.aJ ab;have fe:=aI.aJ ax;have eC:=fun val w'=>tE (P:=P) (a:=a) (val:=val) (w:=w) (w':=w') ah
  generalize ei:a.eval x=dG at fN eC;generalize e9:a.eval y=fJ at fe eC;cases fN;obtain ⟨vs,cP,c9,eP⟩:=aI.wf.obj _ _ (ao.get I);have fq:vs.toList.length=cap:=by rw [c9.length,cu]
  have hv:=c9.take n;have vB:=pQ hv ih;have o0:∀ w':World,(∀ j,w'.cell? ⟨b,j,none⟩=w.cell? ⟨b,j,none⟩)→(Builtin.firstCells 1 n (.slice (some ⟨b,0,none⟩) n cap)).run P w' = .ok (vs.toList.take n).toArray w':=by
    intro w' h2;refine run_firstCells_some (P:=P) w' 1 n ⟨b,0,none⟩ n cap (vs.toList.take n) (by rw [ac9,fq];omega) (fun j u hu=>?_);rw [kP,ad8,h2,jq cP];rw [af'] at hu;split at hu
    · simpa using hu
    · cases hu
  by_cases az:cap<n+ys.length
  · obtain ⟨aT,b8,cs',w',fg,gf,hg,iL,lM,lN,mq,mr⟩:=K1 (ty:=o.type) aP aI.wf (base:=some ⟨b,0,none⟩) (n:=n) (cap:=cap) (olds:=vs.toList.take n) (xs:=cs.take n) aK br c4 dC bH U d' hv wU
      (o0 w.drew fun _=>rfl) fe c' dS az an en
    have hC:ak.Sub ((aQ s R).set aT (.box e cs')) ((aQ s L).set aT (.box e cs')):=by
      refine B7 (k := .own aT) ?_;rw [b7];exact xh (k := .own b) (ak.n7 _) bR
    have au:aQ s R aT=none:=by
      have h:=gf;rw [b7] at h;exact (ak.tq h).2
    exact ⟨_,w',_,p,_,eC _ _ fg,hg,iL.sub hC,lM.sub hC,⟨aT,b8,cs',rfl,rfl,⟨au,eE⟩,lN,mq,mr⟩,.hl _⟩
  · obtain ⟨info,d,g1,g2,g3,-⟩:=aP.parts aK
    obtain ⟨l8,cX,dV,dg,dB,-⟩:=aP.parts c4;obtain ⟨jx,jZ,cv,db,e8,ew,jy,iY⟩:=aP.parts bH;have av:d = .slice e:=by rw [br] at g3;cases d<;>simp [eh] at g3;rw [g3]
    subst av;have cc:∀ k,cX ≠ .int k:=fun k e'=>by subst e';exact dC k dB.symm
    subst c';obtain ⟨us,h3,oX,jz,jQ,sg,sh,si⟩:=pS (sz':=1) fe (.inr rfl);have mc:=h3.length;have lR:∀ x∈us,x.oneCell'=true:=pQ h3 dS;have sy:flat us=us:=sx lR;have eB:vs.size=cap:=by rw [← ac6];exact fq
    have cK:=BE (ty:=o.type) (P:=P) w g2 dg cc cv b n cap vs cP (xv:=fJ) (m:=ys.length) (news:=us) (jz P) (by rw [ew,U];(conv=>rhs;rw [← sy]);exact jQ P w (fun _ _ _=>rfl)) lR ag (by rw [ew,U,eB];omega);rw [ew,U,ah2] at cK;have gW:bD w p (vs.toList.take n++us++vs.toList.drop (n+us.length)) (cs.take n++ys++cs.drop (n+us.length)):=bD.append (bD.append hv h3) (c9.drop _);have b6:(aQ s L) b=some (.box e cs):=ao.get I
    obtain ⟨eg,ky,iP⟩:=u0 aI.wf b6 (vs':=(vs.toList.take n++us++vs.toList.drop (n+us.length)).toArray) (cs':=cs.take n++ys++cs.drop (n+us.length)) (fun zp bo=>by
      rw [cP] at bo;cases bo
      simp only [ak8,d9,ac9,ag1,fq]
      rw [eB];omega) (by simpa using gW) _ C
    obtain ⟨f1,f2⟩:=ao.put (.box e (cs.take n++ys++cs.drop (n+us.length))) I;refine ⟨_,_,_,p,_,eC _ _ cK,eg,ky,iP,⟨b,cap,cs.take n++ys++cs.drop (n+us.length),rfl,f1,f2,?_,by omega,?_⟩,.hl _⟩
    · simp only [d9,ac9,ag1,cu];omega
    · have:(cs.take n++ys).length=n+ys.length:=by simp [cu];omega
      rw [ag2 ag,ae8 ag]
theorem aW.F3 (aP:bM P Γ) {t bI e:TypeId} {x y:Operand} {it cz aG:bL} {ed bW:Nat} {dx:bN}
  (ah:o.op = .call { callee := .builtin .append,args := #[x,y],argTypes := #[t,bI] }) (aK:Γ.get? t=some it) (br:it.bE = .ay e) (c4:Γ.get? bI=some cz) (dC:∀ k,cz.bE ≠ .int k)
  (bH:Γ.get? e=some aG) (ab:aJ env x=some (.ay ed [] .nil)) (ax:aJ env y=some (.ay bW [] dx)) {X:af→ak→Prop}:aW P N o env s (fun r ai=>r = .ay 0 [] .nil∧ai=s) X:=by
 refine aW.jY iN fun ro B a w p aI=>?_
 have fN:=aI.aJ ab;have fe:=aI.aJ ax;have eC:=fun val w'=>tE (P:=P) (a:=a) (val:=val) (w:=w) (w':=w') ah
 generalize ei:a.eval x=dG at fN eC;generalize e9:a.eval y=fJ at fe eC;have sA:dG = .slice none 0 0:=by
  cases fN with
  | hL=>rfl
  | ib a _ _ h=>rcases h with h|h<;>cases h
  | ay g off n cap _ vs _ _ aA=>exact absurd C aA
 subst sA;obtain ⟨info,d,g1,g2,g3,-⟩:=aP.parts aK;obtain ⟨l8,cX,dV,dg,dB,-⟩:=aP.parts c4;obtain ⟨jx,jZ,cv,db,e8,ew,jy,iY⟩:=aP.parts bH;have av:d = .slice e:=by rw [br] at g3;cases d<;>simp [eh] at g3;rw [g3]
 subst av;have cc:∀ k,cX ≠ .int k:=fun k e'=>by subst e';exact dC k dB.symm
 obtain ⟨us,h3,oX,jz,jQ,sg,sh,si⟩:=pS (sz':=aG.size) fe (.inl rfl);cases h3;have aB:=jz P;have a1:=jQ P w (fun _ _ _=>rfl);rw [List.length_nil] at aB a1;have bP:(match cX with | .int _=>true|_=>false)=false:=by cases cX<;>first|rfl|exact absurd C (cc _)
 have cK:(Builtin.append_ #[t,bI] o.type #[.slice none 0 0,fJ]).run P w = .ok (.slice none 0 0) w:=by
  simp [Builtin.append_,run_underlying g2,run_underlying dg,sizeOf,typeInfo,cv,ew,bP,aB,a1]
 exact ⟨_,w,s,p,_,eC _ _ cK,.refl w p,.refl s w p,aI.wf,⟨rfl,rfl⟩,.hL _ _ (fun _=>by simp)⟩
theorem aa.F3 (aP:bM P Γ) {t bI e:TypeId} {x y:Operand} {it cz aG:bL} {ed bW:Nat} {dx:bN} (au:guardOf ops env o=some true) (av:o.dst=some d) (aY:i9 d N=true)
  (ah:o.op = .call { callee := .builtin .append,args := #[x,y],argTypes := #[t,bI] }) (aK:Γ.get? t=some it) (br:it.bE = .ay e) (c4:Γ.get? bI=some cz) (dC:∀ k,cz.bE ≠ .int k)
  (bH:Γ.get? e=some aG) (ab:aJ env x=some (.ay ed [] .nil)) (ax:aJ env y=some (.ay bW [] dx)) (h:aa P N ops l Q ((d,.ay 0 [] .nil)::env) s):aa P N ops (o::l) Q env s:=
 aa.op au av aY (aW.F3 aP ah aK br c4 dC bH ab ax (X:=fun _ _=>False)) (fun x ai ⟨U,ad⟩=>by subst U;subst ad;exact h) (fun _ _ h=>h.elim)
theorem aa.F1 (aP:bM P Γ) (I:Ok s L) {t bI e:TypeId} {x y:Operand} {it cz aG:bL} {ed bW:Nat} {ys:List af} {dx:bN} (au:guardOf ops env o=some true) (av:o.dst=some d) (aY:i9 d N=true)
  (ah:o.op = .call { callee := .builtin .append,args := #[x,y],argTypes := #[t,bI] }) (aK:Γ.get? t=some it) (br:it.bE = .ay e) (c4:Γ.get? bI=some cz) (dC:∀ k,cz.bE ≠ .int k)
  (bH:Γ.get? e=some aG) (U:aG.size=1) (d':ad0 aG.zero.cells.size aG.size=true) (ab:aJ env x=some (.ay ed [] .nil)) (ax:aJ env y=some (.ay bW ys dx)) (c':bW=1) (dS:ys.all e4=true) (cp:1≤ys.length) (an:ys.length*aG.bytes≤140737488355328) (en:ys.length≤9223372036854775807)
  (h:∀ aT b8 cs',cs'.length=b8→ys.length≤b8→cs'.take ys.length=ys→Ok s ((.own aT,.box e cs')::L)→aa P N ops l Q ((d,ea aT ys.length b8)::env) (aQ s ((.own aT,.box e cs')::L))):aa P N ops (o::l) Q env (aQ s L):=by
 refine aa.op au av aY (aW.F1 aP I ah aK br c4 dC bH U d' ab ax c' dS cp an en (X:=fun _ _=>False)) ?_ (fun _ _ h=>h.elim);rintro r ai ⟨aT,b8,cs',rfl,rfl,ad,al,bd,bB⟩;exact h aT b8 cs' al bd bB ad
theorem aa.F2 (aP:bM P Γ) (I:Ok s L) {t bI e:TypeId} {x y:Operand} {it cz aG:bL} {b n cap bW:Nat} {cs ys:List af} {dx:bN} (au:guardOf ops env o=some true) (av:o.dst=some d) (aY:i9 d N=true)
  (ah:o.op = .call { callee := .builtin .append,args := #[x,y],argTypes := #[t,bI] }) (aK:Γ.get? t=some it) (br:it.bE = .ay e) (c4:Γ.get? bI=some cz) (dC:∀ k,cz.bE ≠ .int k)
  (bH:Γ.get? e=some aG) (U:aG.size=1) (d':ad0 aG.zero.cells.size aG.size=true) (ab:aJ env x=some (ea b n cap)) (ao:bl L (.own b) (.box e cs) R) (cu:cs.length=cap) (aA:n≤cap) (ih:(cs.take n).all e4=true)
  (ax:aJ env y=some (.ay bW ys dx)) (c':bW=1) (dS:ys.all e4=true) (an:(n+ys.length)*aG.bytes≤140737488355328) (en:n+ys.length≤9223372036854775807)
  (h:∀ aT b8 cs',cs'.length=b8→n+ys.length≤b8→cs'.take (n+ys.length)=cs.take n++ys→Ok s ((.own aT,.box e cs')::R)→aa P N ops l Q ((d,ea aT (n+ys.length) b8)::env) (aQ s ((.own aT,.box e cs')::R))):aa P N ops (o::l) Q env (aQ s L):=by
 refine aa.op au av aY (aW.F2 aP I ah aK br c4 dC bH U d' ab ao cu aA ih ax c' dS an en (X:=fun _ _=>False)) ?_ (fun _ _ h=>h.elim);rintro r ai ⟨aT,b8,cs',rfl,rfl,ad,al,bd,bB⟩;exact h aT b8 cs' al bd bB ad
end
end Go.Proofs.YtnafpeohfbglmaaGreat
