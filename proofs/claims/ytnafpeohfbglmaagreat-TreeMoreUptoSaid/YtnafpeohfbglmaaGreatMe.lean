import Derived.Test.YtnafpeohfbglmaaGreatMd
import Derived.WideKeyRuns
set_option linter.unusedVariables false
set_option linter.unusedSimpArgs false
set_option maxRecDepth 100000
set_option maxHeartbeats 4000000
open Array renaming length_toList→ac6,toList_push→aq1
open Bool renaming and_eq_true→f6,and_true→am8,eq_false_iff→ae9,eq_iff_iff→ad1,false_and→f7,or_eq_true→ag9,or_false→ak5,true_and→f4
open Int renaming le_refl→aj4,toNat_natCast→ac3
open Go.IntKind renaming wrap→aa'
open List renaming all_cons→aj6,all_eq_true→ae',all_nil→an3,append_assoc→ae6,append_nil→d8,cons_append→t8,drop_zero→aj',eq_nil_of_length_eq_zero→ag3,find?_cons→av2,foldl_append→an',getD_eq_getElem?_getD→d5,getElem?_append_left→ad3,getElem?_append_right→ad6,getElem?_eq_getElem→f8,getElem?_eq_none→aj9,getElem?_map→ad7,isEmpty→an2,length_append→d9,length_cons→i7,length_drop→ag1,length_filter_le→aj0,length_map→f5,length_nil→ae1,length_replicate→ad',length_singleton→ac8,length_take_le'→ai1,length_take→ac9,map_append→ac2,map_cons→ac0,map_nil→ae3,mem_append→ac7,mem_cons_of_mem→g7,mem_cons_self→i5,mem_map→ad2,mem_of_getElem?→d6,mem_of_mem_take→am5,mem_singleton→t7,nil_append→d7,range→af7,replicate_succ'→am6,replicate_zero→as',replicate→t6,set_append_right→ai',take_length→ac',take_of_length_le→ae8,take_zero→aj8
open Nat renaming and_comm→aA1,blt→i9,le_refl→i0,le_trans→al5,lt_succ_self→ak',min_eq_left→ak1,mul_one→ah2,or_lt_two_pow→ag',pow_lt_pow_right→ag6,zero_add→ad8,zero_le→g9
open Option renaming getD_none→ax8,getD_some→ae7,isSome_none→ar2,isSome_some→aw',map_none→aq',map_some→am3
open Go.Result renaming andThen_ok→g6
open Go.Sem renaming run_bind→z2,run_pure→ac4
open Go.Proofs.Tryz renaming prog→d0
namespace Go.Proofs.YtnafpeohfbglmaaGreat
theorem tR {p:Prop} (h:p:=by (first|rw [kV (by omega)]|(rw [js aD,Kc,iF,iF];congr 1;split<;>omega))):p:=h
theorem F4 {p:Prop} (h:p:=by simp only [List.length_nil,Nat.zero_add,List.length_map];show _*8≤_;omega):p:=h
theorem F5 {p:Prop} (h:p:=by show aH _ [(_,.row _ _ (xs (j+1)).length)] _;rw [dj];exact aH.ez _):p:=h
theorem tS {p:Prop} (h:p:=by (first|rfl|(rw [aB];simp [iF,a8 aB])|(rw [aB];simp [iF]))):p:=h
theorem vN {p:Prop} (h:p:=by simp only [List.length_nil,Nat.zero_add,List.length_map];omega):p:=h
theorem xE {p:Prop} (h:p:=by show p.bT.length-(j+1)<p.bT.length-j;omega):p:=h
theorem CD {p:Prop} (h:p:=by show c.bj.length-(k+1)<c.bj.length-k;omega):p:=h
theorem oB {p:Prop} (h:p:=by show f.kids.length-(j+1)<f.kids.length-j;omega):p:=h
theorem sN {p:Prop} (h:p:=by first|(simp_all [];done)|(simp_all []<;>omega)):p:=h
theorem CE {p:Prop} (h:p:=by show cs.length-(j+1)<cs.length-j;omega):p:=h
theorem zO {p:Prop} (h:p:=by (rw [er (by omega) (by omega)])):p:=h
theorem rk {p:Prop} (h:p:=by show l.length-(j+1)<l.length-j;omega):p:=h
theorem mz {p:Prop} (h:p:=by rw [ad];exact List.mem_cons_self):p:=h
theorem tT {p:Prop} (h:p:=by rw [ad];simp):p:=h
section
variable {P:Program} {Γ:cj} {N:Nat} {ops:Array Oper} {Q:bX→Env→ak→Prop} {env:Env} {s:ak} {l:List Oper} {o:Oper} {d:Nat} {L R:a6}
def rl (b off n cap:Nat):af := .hl (.slice (some ⟨b,off,none⟩) n cap)
theorem K2 {t bI:TypeId} {x y:Operand} {a:Act} {val:Value} {w w':World} (ah:o.op = .call { callee := .builtin .copy,args := #[x,y],argTypes := #[t,bI] }) (h:(Builtin.copy_ #[t,bI] o.type #[a.eval x,a.eval y]).run P w = .ok val w') :
  (execOp a.eval o).run P w = .ok (.value val) w':=by
 unfold execOp;rw [ah];simp only [resolve,invoke,builtin,z2,ac4,g6,List.map_toArray,ac0,ae3,h]
theorem K3 (I:Ok s L) {w:World} {p:bO} {b off:Nat} {e:TypeId} {cs ys:List af} {us:List Value} {vs:Array Value} (b5:df w p (aQ s L)) (ao:bl L (.own b) (.box e cs) R) (cP:w.heap[b]? = some (.cells vs e (0,0))) (c9:bD w p vs.toList cs) (hu:bD w p us ys) (fl:off+ys.length≤cs.length) :
  c8 w p (w.setRow b (vs.toList.take off++us++vs.toList.drop (off+us.length)).toArray) p∧Kept (aQ s L) (aQ s ((.own b,.box e (cs.take off++ys++cs.drop (off+ys.length)))::R)) w p (w.setRow b (vs.toList.take off++us++vs.toList.drop (off+us.length)).toArray) p ∧
   df (w.setRow b (vs.toList.take off++us++vs.toList.drop (off+us.length)).toArray) p (aQ s ((.own b,.box e (cs.take off++ys++cs.drop (off+ys.length)))::R))∧Ok s ((.own b,.box e (cs.take off++ys++cs.drop (off+ys.length)))::R):=by
 have mc:=hu.length;have qT:=c9.length;have gW:bD w p (vs.toList.take off++us++vs.toList.drop (off+us.length)) (cs.take off++ys++cs.drop (off+ys.length)):=by
  rw [mc];exact bD.append (bD.append (c9.take _) hu) (c9.drop _)
 obtain ⟨eg,ky,iP⟩:=u0 b5 (ao.get I) (vs':=(vs.toList.take off++us++vs.toList.drop (off+us.length)).toArray) (cs':=cs.take off++ys++cs.drop (off+ys.length)) (fun zp bo=>by
  rw [cP] at bo;cases bo
  rw [ac6] at qT
  simp only [List.size_toArray,d9,ac9,ag1,ac6]
  omega) (by simpa using gW) _ C
 obtain ⟨f1,f2⟩:=ao.put (.box e (cs.take off++ys++cs.drop (off+ys.length))) I;rw [f1] at ky iP;exact ⟨eg,ky,iP,f2⟩
theorem aW.F6 (aP:bM P Γ) (I:Ok s L) {t bI e:TypeId} {x y:Operand} {it aG:bL} {b off dl qh bW:Nat} {cs ys:List af} {dx:bN}
  (ah:o.op = .call { callee := .builtin .copy,args := #[x,y],argTypes := #[t,bI] }) (aK:Γ.get? t=some it) (br:it.bE = .ay e) (bH:Γ.get? e=some aG) (U:aG.size=1) (ab:aJ env x=some (rl b off dl qh)) (ao:bl L (.own b) (.box e cs) R)
  (ax:aJ env y=some (.ay bW ys dx)) (c':bW=1) (dS:ys.all e4=true) (av:ys.length≤dl) (fl:off+ys.length≤cs.length) {X:af→ak→Prop} :
  aW P N o env (aQ s L) (fun r ai=>r = .int .i64 ys.length∧ai=aQ s ((.own b,.box e (cs.take off++ys++cs.drop (off+ys.length)))::R)∧Ok s ((.own b,.box e (cs.take off++ys++cs.drop (off+ys.length)))::R)) X:=by
 refine aW.jY iN fun ro B a w p aI=>?_
 have fN:=aI.aJ ab;have fe:=aI.aJ ax;have eC:=fun val w'=>K2 (P:=P) (a:=a) (val:=val) (w:=w) (w':=w') ah
 generalize ei:a.eval x=dG at fN eC;generalize e9:a.eval y=fJ at fe eC;cases fN;obtain ⟨info,d,g1,g2,g3,-⟩:=aP.parts aK;obtain ⟨jx,jZ,cv,db,e8,ew,jy,iY⟩:=aP.parts bH;have cc:d = .slice e:=by rw [br] at g3;cases d<;>simp [eh] at g3;rw [g3]
 subst cc;subst c';obtain ⟨us,h3,oX,jz,jQ,sg,sh,si⟩:=pS (sz':=1) fe (.inr rfl);have mc:=h3.length;have lR:∀ x∈us,x.oneCell'=true:=pQ h3 dS;have sy:flat us=us:=sx lR;obtain ⟨vs,cP,c9,eP⟩:=aI.wf.obj _ _ (ao.get I);have qT:=c9.length;rw [ac6] at qT;have aB:=jz P;have a1:=jQ P w (fun _ _ _=>rfl);rw [sy] at a1;have vn:=run_storeCells_at P b off e us 0 vs w cP ag lR;simp only [Nat.add_zero] at vn;have Tl:Nat.min ys.length dl=ys.length:=ak1 av;have cK:(Builtin.copy_ #[t,bI] o.type #[.slice (some ⟨b,off,none⟩) dl qh,fJ]).run P w = .ok (.int .i64 ys.length) (w.setRow b (vs.toList.take off++us++vs.toList.drop (off+us.length)).toArray):=by
  simp [Builtin.copy_,run_underlying g2,sizeOf,typeInfo,cv,ew,U,aB,Tl,a1,vn,goInt]
 obtain ⟨dV,dg,dB,ma⟩:=K3 I aI.wf ao cP c9 h3 fl;exact ⟨_,_,_,p,_,eC _ _ cK,dV,dg,dB,⟨rfl,rfl,ma⟩,.int _ _⟩
theorem aW.zP (aP:bM P Γ) (I:Ok s L) {t bI e:TypeId} {x y:Operand} {it aG:bL} {b off dl qh jh bx xF k:Nat} {cs:List af}
    (ah:o.op = .call { callee := .builtin .copy,args := #[x,y],argTypes := #[t,bI] }) (aK:Γ.get? t=some it) (br:it.bE = .ay e) (bH:Γ.get? e=some aG) (U:aG.size=1) (ab:aJ env x=some (rl b off dl qh)) (ao:bl L (.own b) (.box e cs) R)
    (ax:aJ env y=some (rl b jh bx xF)) (aD:k=min bx dl) (dS:((cs.drop jh).take k).all e4=true) (ad:jh+k≤cs.length) (fl:off+k≤cs.length) {X:af→ak→Prop} :
    aW P N o env (aQ s L) (fun r ai=>r = .int .i64 k∧ai=aQ s ((.own b,.box e (cs.take off++(cs.drop jh).take k++cs.drop (off+k)))::R)∧Ok s ((.own b,.box e (cs.take off++(cs.drop jh).take k++cs.drop (off+k)))::R)) X:=by
  refine aW.jY iN fun ro B a w p aI=>?_
  have fN:=aI.aJ ab;have fe:=aI.aJ ax;have eC:=fun val w'=>K2 (P:=P) (a:=a) (val:=val) (w:=w) (w':=w') ah
  generalize ei:a.eval x=dG at fN eC;generalize e9:a.eval y=fJ at fe eC;cases fN;cases fe;obtain ⟨info,d,g1,g2,g3,-⟩:=aP.parts aK;obtain ⟨jx,jZ,cv,db,e8,ew,jy,iY⟩:=aP.parts bH;have cc:d = .slice e:=by rw [br] at g3;cases d<;>simp [eh] at g3;rw [g3]
  subst cc;obtain ⟨vs,cP,c9,eP⟩:=aI.wf.obj _ _ (ao.get I);have qT:=c9.length;have sb:bD w p ((vs.toList.drop jh).take k) ((cs.drop jh).take k):=(c9.drop _).take _;have lR:=pQ sb dS;have j2:((vs.toList.drop jh).take k).length=k:=by rw [ac9,ag1];omega
  have cu:((cs.drop jh).take k).length=k:=by rw [ac9,ag1];omega
  rw [ac6] at qT
  have cK:=run_copy_row P w t bI o.type e b off dl qh ⟨b,jh,none⟩ bx xF vs e ((vs.toList.drop jh).take k) g2 (by rw [cv];simp [ew,U]) cP (by rw [j2,aD]) (fun j u hu=>by
    rw [kP,jq cP]
    rw [List.getElem?_take] at hu
    split at hu
    · rw [List.getElem?_drop] at hu
      simpa using hu
    · cases hu) (by rw [j2];omega) lR
  rw [j2] at cK;obtain ⟨dV,dg,dB,ma⟩:=K3 (off:=off) I aI.wf ao cP c9 sb (by rw [cu];exact fl);rw [j2] at dV dg dB;rw [cu] at dg dB ma;exact ⟨_,_,_,p,_,eC _ _ cK,dV,dg,dB,⟨rfl,rfl,ma⟩,.int _ _⟩
theorem aa.F6 (aP:bM P Γ) (I:Ok s L) {t bI e:TypeId} {x y:Operand} {it aG:bL} {b off dl qh bW:Nat} {cs ys:List af} {dx:bN} (au:guardOf ops env o=some true) (av:o.dst=some d) (aY:i9 d N=true)
  (ah:o.op = .call { callee := .builtin .copy,args := #[x,y],argTypes := #[t,bI] }) (aK:Γ.get? t=some it) (br:it.bE = .ay e) (bH:Γ.get? e=some aG) (U:aG.size=1) (ab:aJ env x=some (rl b off dl qh)) (ao:bl L (.own b) (.box e cs) R)
  (ax:aJ env y=some (.ay bW ys dx)) (c':bW=1) (dS:ys.all e4=true) (vO:ys.length≤dl) (fl:off+ys.length≤cs.length)
  (h:Ok s ((.own b,.box e (cs.take off++ys++cs.drop (off+ys.length)))::R)→aa P N ops l Q ((d,.int .i64 ys.length)::env) (aQ s ((.own b,.box e (cs.take off++ys++cs.drop (off+ys.length)))::R))):aa P N ops (o::l) Q env (aQ s L):=
 aa.op au av aY (aW.F6 aP I ah aK br bH U ab ao ax c' dS vO fl (X:=fun _ _=>False)) (fun x ai ⟨U,ad,al⟩=>by subst U;subst ad;exact h al) (fun _ _ h=>h.elim)
theorem aa.zP (aP:bM P Γ) (I:Ok s L) {t bI e:TypeId} {x y:Operand} {it aG:bL} {b off dl qh jh bx xF:Nat} (k:Nat) {cs:List af} (au:guardOf ops env o=some true) (av:o.dst=some d) (aY:i9 d N=true)
  (ah:o.op = .call { callee := .builtin .copy,args := #[x,y],argTypes := #[t,bI] }) (aK:Γ.get? t=some it) (br:it.bE = .ay e) (bH:Γ.get? e=some aG) (U:aG.size=1) (ab:aJ env x=some (rl b off dl qh)) (ao:bl L (.own b) (.box e cs) R)
  (ax:aJ env y=some (rl b jh bx xF)) (aD:k=min bx dl) (dS:((cs.drop jh).take k).all e4=true) (ad:jh+k≤cs.length) (fl:off+k≤cs.length)
  (h:Ok s ((.own b,.box e (cs.take off++(cs.drop jh).take k++cs.drop (off+k)))::R)→aa P N ops l Q ((d,.int .i64 k)::env) (aQ s ((.own b,.box e (cs.take off++(cs.drop jh).take k++cs.drop (off+k)))::R))):aa P N ops (o::l) Q env (aQ s L):=
 aa.op au av aY (aW.zP aP I ah aK br bH U ab ao ax aD dS ad fl (X:=fun _ _=>False)) (fun x ai ⟨U,ad,al⟩=>by subst U;subst ad;exact h al) (fun _ _ h=>h.elim)
theorem bh.zP {J:ak→Prop} {m:Nat} (i:Nat) (aP:bM P Γ) (I:Ok s L) {t bI e:TypeId} {x y:Operand} {it aG:bL} {b off dl qh jh bx xF:Nat} (k:Nat) {cs:List af} (aC:eD l.toArray m (idxs 0 l)=[i]) (aS:l.toArray[i]? = some o) (av:o.dst=some d) (aY:i9 d N=true)
  (au:cY l env o)
  (ah:o.op = .call { callee := .builtin .copy,args := #[x,y],argTypes := #[t,bI] }) (aK:Γ.get? t=some it) (br:it.bE = .ay e) (bH:Γ.get? e=some aG) (U:aG.size=1) (ab:aJ (bU l env o) x=some (rl b off dl qh)) (ao:bl L (.own b) (.box e cs) R)
  (ax:aJ (bU l env o) y=some (rl b jh bx xF)) (aD:k=min bx dl) (dS:((cs.drop jh).take k).all e4=true) (ad:jh+k≤cs.length) (fl:off+k≤cs.length)
  (aO:Ok s ((.own b,.box e (cs.take off++(cs.drop jh).take k++cs.drop (off+k)))::R)→J (aQ s ((.own b,.box e (cs.take off++(cs.drop jh).take k++cs.drop (off+k)))::R))∨kt l.toArray i=true)
  (h:Ok s ((.own b,.box e (cs.take off++(cs.drop jh).take k++cs.drop (off+k)))::R)→bh J P Γ N l.toArray Q (bQ (m|||2^i)) ((d,.int .i64 k)::env) (aQ s ((.own b,.box e (cs.take off++(cs.drop jh).take k++cs.drop (off+k)))::R))):bh J P Γ N l.toArray Q (bQ m) env (aQ s L):=
 bh.one aC aS av aY au (aW.zP aP I ah aK br bH U ab ao ax aD dS ad fl (X:=fun _ _=>False)) (fun x ai ⟨U,ad,al⟩=>by subst U;subst ad;exact aO al) (fun x ai ⟨U,ad,al⟩=>by subst U;subst ad;exact h al) (fun _ _ h=>h.elim)
theorem aW.F7 (aP:bM P Γ) {t e:TypeId} {x y:Operand} {it aG:bL} {b n cap k:Nat} {p8:IntKind} (ah:o.op = .slice t x (some y) none none) (aK:Γ.get? t=some it) (br:it.bE = .ay e) (bH:Γ.get? e=some aG) (U:aG.size=1) (ab:aJ env x=some (ea b n cap)) (ax:aJ env y=some (.int p8 (k:Int))) (aD:k≤n) (aA:n≤cap) (Bo:k<cap) :
  aW P N o env s (fun x ai=>x=rl b k (n-k) (cap-k)∧ai=s) (fun _ _=>False):=by
 refine aW.mO iN fun ro B a w p aI=>?_
 obtain ⟨info,d,g1,g2,g3,-⟩:=aP.parts aK;obtain ⟨jx,jZ,cv,db,e8,ew,-⟩:=aP.parts bH;have av:d = .slice e:=by rw [br] at g3;cases d<;>simp [eh] at g3;rw [g3]
 subst av;have aC:=aI.aJ ab;have fe:=aI.aJ ax;generalize ei:a.eval x=dG at aC;generalize e9:a.eval y=fJ at fe;cases aC;cases fe;refine .same (val := .slice (some ⟨b,k,none⟩) (n-k) (cap-k)) ?_ (.hl _);unfold execOp;rw [ah];simp only [ei,aq',am3,e9];refine gC ?_;have kR:(k:Int)≤(n:Int):=by omega
 have sL:(n:Int)≤(cap:Int):=by omega
 have an:(Instr.sliceBounds true n cap (some (.int p8 (k:Int))) none none).run P w = .ok (k,n,cap) w:=by
  simp [Instr.sliceBounds,run_sliceBound,kR,sL]
 have bo:cap-k≠0:=by omega
 simp only [Instr.sliceAt,Instr.slice,z2,run_underlying g2,g6,an,sizeOf,typeInfo,run_program,cv,ac4,ew,U];simp [bo,kP];intro c6;omega
theorem bh.F7 {J:ak→Prop} {m:Nat} (i:Nat) (aP:bM P Γ) (cZ:J s) {t e:TypeId} {x y:Operand} {it aG:bL} {b n cap:Nat} (k:Nat) {p8:IntKind} (aC:h6 l.toArray m i=true) (aS:l.toArray[i]? = some o) (av:o.dst=some d) (aY:i9 d N=true)
  (au:cY l env o) (ah:o.op = .slice t x (some y) none none) (aK:Γ.get? t=some it) (br:it.bE = .ay e) (bH:Γ.get? e=some aG) (U:aG.size=1) (ab:aJ (bU l env o) x=some (ea b n cap)) (ax:aJ (bU l env o) y=some (.int p8 (k:Int))) (aD:k≤n) (aA:n≤cap) (Bo:k<cap)
  (h:bh J P Γ N l.toArray Q (bQ (m|||2^i)) ((d,rl b k (n-k) (cap-k))::env) s):bh J P Γ N l.toArray Q (bQ m) env s:=
 bh.p5 cZ aC aS av aY au (fun _ _=>aW.F7 aP ah aK br bH U ab ax aD aA Bo) h
theorem bh.zu {J:ak→Prop} {m:Nat} (i:Nat) (aP:bM P Γ) (cZ:J s) {t e:TypeId} {x y:Operand} {it aG:bL} {b n cap:Nat} (k:Nat) {p8:IntKind} (aC:h6 l.toArray m i=true) (aS:l.toArray[i]? = some o) (av:o.dst=some d) (aY:i9 d N=true)
  (au:cY l env o) (ah:o.op = .slice t x none (some y) none) (aK:Γ.get? t=some it) (br:it.bE = .ay e) (bH:Γ.get? e=some aG) (ab:aJ (bU l env o) x=some (ea b n cap)) (ax:aJ (bU l env o) y=some (.int p8 (k:Int))) (aD:k≤cap)
  (h:bh J P Γ N l.toArray Q (bQ (m|||2^i)) ((d,ea b k cap)::env) s):bh J P Γ N l.toArray Q (bQ m) env s:=
 bh.p5 cZ aC aS av aY au (fun _ _=>aW.zu aP ah aK br bH ab ax aD) h
end
section
variable {J:ak→Prop} {P:Program} {Γ:cj} {N:Nat} {Q:bX→Env→ak→Prop} {env:Env} {s:ak} {l:List Oper} {o:Oper} {d m:Nat}
theorem bh.rm (i:Nat) (cZ:J s) {g:Operand} {name:String} {fC:Array Operand} {c0:Array TypeId} {t:TypeId} {v:af} {f:FuncId} {xs:List af} {r:af} (aC:h6 l.toArray m i=true) (aS:l.toArray[i]? = some o) (av:o.dst=some d) (aY:i9 d N=true)
  (au:cY l env o) (ah:o.op = .call { callee := .invoke g name,args:=fC,argTypes:=c0 }) (ar:aJ (bU l env o) g=some (.iface t v)) (a8:fy (bU l env o) fC.toList=some xs) (hm:o2 P t name f) (h:aU P f (v::xs) r)
  (aD:bh J P Γ N l.toArray Q (bQ (m|||2^i)) ((d,r)::env) s):bh J P Γ N l.toArray Q (bQ m) env s:=
 bh.p5 cZ aC aS av aY au (fun s _=>(aW.invoke ah ar a8 hm (h s)).mono (fun x ai h=>by cases h.1;exact ⟨rfl,h.2⟩) (fun x ai h=>by cases h.1)) aD
end
section
variable {J:ak→Prop} {P:Program} {Γ:cj} {N:Nat} {l:List Oper} {i:Nat} {rest:List Oper} {Q:bX→Env→ak→Prop} {env:Env} {s:ak} {o:Oper} {d:Nat}
theorem aL.rm {g:Operand} {name:String} {fC:Array Operand} {c0:Array TypeId} {t:TypeId} {v:af} {f:FuncId} {xs:List af} {r:af} (au:cY l env o) (av:o.dst=some d) (aY:i9 d N=true)
  (ah:o.op = .call { callee := .invoke g name,args:=fC,argTypes:=c0 }) (ar:aJ (bU l env o) g=some (.iface t v)) (a8:fy (bU l env o) fC.toList=some xs) (hm:o2 P t name f) (h:aU P f (v::xs) r)
  (aD:aL J P Γ N l (i+1) rest Q ((d,r)::env) s):aL J P Γ N l i (o::rest) Q env s:=
 aL.calm au av aY (fun s _=>(aW.invoke ah ar a8 hm (h s)).mono (fun x ai h=>by cases h.1;exact ⟨rfl,h.2⟩) (fun x ai h=>by cases h.1)) aD
end
section
variable {J:ak→Prop} {P:Program} {Γ:cj} {N:Nat} {l:List Oper} {i:Nat} {rest:List Oper} {Q:bX→Env→ak→Prop} {env:Env} {s:ak} {o:Oper} {d:Nat}
theorem aL.gr {L R K:a6} {ace:eo→a6→Prop} {g:Operand} {fv:af} {fC:Array Operand} {c0:Array TypeId} {xs:List af} (au:cY l env o) (av:o.dst=some d) (aY:i9 d N=true) (lx:kt l.toArray i=true)
  (bV:o.op = .call { callee := .value g,args:=fC,argTypes:=c0 }) (ar:aJ (bU l env o) g=some fv) (a8:fy (bU l env o) fC.toList=some xs) (h:dh P fv xs K ace) (I:Ok s L) (ao:aH L K R)
  (aD:∀ x aN,ace (.ret x) aN→Ok s (aN++R)→Q .normal ((d,x)::env) (aQ s (aN++R))) (ab:∀ x aN,ace (.panic x) aN→Ok s (aN++R)→Q (.panic x) [] (aQ s (aN++R))):aL J P Γ N l i [o] Q env (aQ s L):=
 aL.last au av aY lx (aW.gr bV ar a8 h I ao) (fun x ai ⟨aN,U,ad,al⟩=>by subst U;exact aD x aN al ad) (fun x ai ⟨aN,U,ad,al⟩=>by subst U;exact ab x aN al ad)
end
section
variable {J:ak→Prop} {P:Program} {Γ:cj} {N:Nat} {l:List Oper} {i:Nat} {rest:List Oper} {Q:bX→Env→ak→Prop} {env:Env} {s:ak} {o:Oper} {d:Nat}
theorem aL.gi (aP:bM P Γ) {t e:TypeId} {x y:Operand} {it aG:bL} {b n cap:Nat} {k:IntKind} {z:Int} (j:Nat) (au:cY l env o) (av:o.dst=some d) (aY:i9 d N=true)
  (ah:o.op = .indexAddr t x y) (aK:Γ.get? t=some it) (br:it.bE = .ay e) (bH:Γ.get? e=some aG)
  (ab:aJ (bU l env o) x=some (ea b n cap)) (ax:aJ (bU l env o) y=some (.int k z)) (eF:z=(j:Int)) (aO:j<n)
  (h:aL J P Γ N l (i+1) rest Q ((d,.ptr b (j*aG.size))::env) s):aL J P Γ N l i (o::rest) Q env s:=
 aL.calm au av aY (fun _ _=>aW.gi aP ah aK br bH ab ax eF aO) h
end
theorem K4:∀ {g:List bJ} {len i k:Nat} {x:bJ},sF len i g=true→g[k]? = some x→lV len (i+k) x=true
  | y::r,len,i,0,x,h,ab=>by
    rw [sF,f6] at h;simp at ab;subst ab;exact h.1
  | y::r,len,i,k+1,x,h,ab=>by
    rw [sF,f6] at h;have:=K4 (k:=k) h.2 (by simpa using ab);rw [show i+(k+1)=i+1+k by omega];exact this
theorem vP {g:List bJ} {k:Nat} {x:bJ} (h:je g=true) (ab:g[k]? = some x):lV g.length k x=true:=by
 unfold je at h;simp only [f6] at h;have:=K4 h.2.2 ab;rwa [ad8] at this
theorem zQ {g:List bJ} (h:je g=true):1≤g.length∧g.length≤300:=by
 unfold je at h;simp only [f6,g8] at h;exact ⟨h.1,h.2.1⟩
theorem CF:∀ (g:List bJ) (i:Nat),(fi i g).length=g.length
 | [],_=>rfl
 | x::r,i=>by rw [fi,i7,i7,CF r]
theorem CG {l:List Int} {j:Nat} {n:Int} (aA:0≤n) (h:∀ v∈l,0≤v∧v≤n):0≤l.getD j 0∧l.getD j 0≤n:=by
 rw [d5];cases aO:l[j]? with
 | none=>exact ⟨aj4 _,aA⟩
 | some v=>exact h v (d6 aO)
theorem zR:∀ (g:List bJ) (i:Nat),∀ v∈fi i g,0≤v∧v≤g.length
  | [],_,v,h=>by cases h
  | x::r,i,v,h=>by
    have aX:=zR r (i+1);have U:=CG (j:=x.no.toNat-(i+1)) ag aX;have ad:=CG (j:=x.yes.toNat-(i+1)) ag aX;rw [fi] at h;rw [i7];rcases List.mem_cons.1 h with rfl|h
    · split<;>omega
    · have:=aX v h;omega
def i' (g:List bJ) (j:Nat):List Int:=t6 j 0++fi j (g.drop j)
theorem K5 {g:List bJ} {j:Nat} (h:j≤g.length):(i' g j).length=g.length:=by
 unfold i';rw [d9,ad',CF,ag1];omega
theorem K6 {g:List bJ} {k:Nat} {n:Int} (U:n>(k:Int)) (ad:n<(g.length:Int)):((i' g (k+1)).map bb)[n.toNat*1]? = some (.int .i64 ((fi (k+1) (g.drop (k+1))).getD (n.toNat-(k+1)) 0)):=by
 have aB:n.toNat<(i' g (k+1)).length:=by rw [K5 ag];omega
 unfold i' at aB ⊢;rw [ah2,ad7,ad6 cO,ad',d5];rw [d9,ad'] at aB;rw [f8 ag];rfl
theorem Tm {g:List bJ} {k:Nat} {x:bJ} {v:Int} (ab:g[k]? = some x) (a8:x.atom≥0) (ar:v=1+max ((fi (k+1) (g.drop (k+1))).getD (x.no.toNat-(k+1)) 0) ((fi (k+1) (g.drop (k+1))).getD (x.yes.toNat-(k+1)) 0)) :
  eO (k*1) [.int .i64 v] ((i' g (k+1)).map bb)=(i' g k).map bb:=by
 rw [rj,ah2];unfold i';rw [drop_cons ab,fi,f9 a8,← ar,am6,ae6,ac2,ac2,ai' _ _ bc];simp [bb]
theorem Tn {g:List bJ} {k:Nat} {x:bJ} (ab:g[k]? = some x) (a8:¬ x.atom≥0):i' g (k+1)=i' g k:=by
 unfold i';rw [drop_cons ab,fi,f0 a8,am6,ae6];rfl
theorem To (g:List bJ) (au:g.length<bt):aU d0 18 [iq g] (.cg [.int .i64 (if je g then j7 g else 0),.int .i64 (if je g then 0 else 2)]):=by
 have an:=bC;refine aU.bn aj Tryz.func18 C C fun s I=>?_
 have a1:=F0 g au;unfold iq at *;cases lZ:je g with
 | false=>
  rw [lZ] at a1;refine cD ?_;exact bA I
 | true=>
 rw [lZ] at a1;obtain ⟨np,eZ⟩:=zQ lZ;have jI:((g.map eS).length:Int)=(g.length:Int):=by rw [f5]
 refine cD ?_;refine aa.xC aj I g.length C C C C C C C C C C (ac5 (fun z=>some (af.int .i64 z)) jI) (ac5 (fun z=>some (af.int .i64 z)) jI) (by show _*8≤_;omega) ag (fun b I=>?_);rw [show t6 g.length (af.int .i64 0)=(i' g g.length).map bb by unfold i';rw [eR (i0 _),fi,d8,List.map_replicate];rfl] at I ⊢;refine bG ?_;have hw:aa' .i64 ((g.length:Int)-1)=(g.length:Int)-1:=er ag ag;refine ae.cl [0,4] C I (σ:=Nat) (fun j=>[(5,.int .i64 ((j:Int)-1))]) (fun j=>[(.own b,.box 3 ((i' g j).map bb))]) (fun j=>j≤g.length) (fun j=>j) g.length (i0 _) (by repeat (first|exact trivial|refine ⟨⟨_,rfl,aM⟩,?_⟩|refine ⟨⟨_,rfl,aR.of_eq (by (rw [jI,hw]))⟩,?_⟩)) a7 ?_;rintro j aO I;refine ck ?_;cases j with
 | zero=>
  refine ae.cond C (fun h=>by simp at h) (fun _=>?_);refine bG ?_;refine aa.gi aj 0 C C C C C C C C C C ag ?_
  refine aa.k2 aj I C C C C C C aV C (v := .int .i64 (j7 g)) (by
   unfold i' j7
   rw [aj',as',d7,ad7,f8 (by rw [CF];omega),d5,f8 (by rw [CF];omega)];rfl) ?_
  refine dY ?_;exact bA I
 | succ k=>
 have e:(((k+1:Nat):Int)-1)=(k:Int):=by omega
 rw [e];refine ae.cond C (fun _=>?_) (fun h=>by simp at h);obtain ⟨x,ab,ct⟩:=cf (f:=eS) (show k<g.length by omega);have aY:=vP lZ ab;unfold eS hy bk at ct;refine ej ?_;refine ae.cond C (fun a8=>?_) (fun a8=>?_);rotate_left
 ·have a8:¬ x.atom≥0:=by simpa using a8
  rw [Tn ab a8] at I ⊢;refine gg ?_;exact bF.mk k I (by show k≤g.length;omega) (by repeat (first|exact trivial|refine ⟨⟨_,rfl,aM⟩,?_⟩|refine ⟨⟨_,rfl,aR.of_eq zO⟩,?_⟩)) a7 (by show k<k+1;omega)
 have a8:x.atom≥0:=by simpa using a8
 have ep:=(oA ag).1 aY;have iz:=CG (j:=x.no.toNat-(k+1)) (n:=300) ag (fun v ar=>⟨(zR (g.drop (k+1)) (k+1) v ar).1,by have:=(zR (g.drop (k+1)) (k+1) v ar).2;rw [ag1] at this;omega⟩);have aa5:=CG (j:=x.yes.toNat-(k+1)) (n:=300) ag (fun v ar=>⟨(zR (g.drop (k+1)) (k+1) v ar).1,by have:=(zR (g.drop (k+1)) (k+1) v ar).2;rw [ag1] at this;omega⟩)
 have uY:=Tm ab a8 (v:=aa' .i64 (1+(if (fi (k+1) (g.drop (k+1))).getD (x.yes.toNat-(k+1)) 0>(fi (k+1) (g.drop (k+1))).getD (x.no.toNat-(k+1)) 0 then (fi (k+1) (g.drop (k+1))).getD (x.yes.toNat-(k+1)) 0 else (fi (k+1) (g.drop (k+1))).getD (x.no.toNat-(k+1)) 0))) (by
  rw [er (by split<;>omega) (by split<;>omega)];split<;>omega)
 refine p6 ?_;refine aL.gi aj x.no.toNat C C C C C C C C C ag ag ?_;refine aL.k2 aj I C C C C C C aV C (K6 ep.2.2.1 ep.2.2.2.1) ?_;refine di ?_;refine aL.gi aj x.yes.toNat C C C C C C C C C ag ag ?_;refine aL.k2 aj I C C C C C C aV C (K6 ep.2.2.2.2.1 ep.2.2.2.2.2.1) ?_;refine di ?_;refine aL.gi aj k C C C C C C C C C C ag ?_;refine aL.lY aj I _ C C C C C C C C C C aV (by rw [f5,K5 ag];show k*1+1≤_;omega) uY (fun I=>?_);refine gg ?_;exact bF.mk k I (by show k≤g.length;omega) (by repeat (first|exact trivial|refine ⟨⟨_,rfl,aM⟩,?_⟩|refine ⟨⟨_,rfl,aR.of_eq zO⟩,?_⟩)) a7 (by show k<k+1;omega)
theorem Tp (x y:bJ) (ab:x.ms.length<bt) (ax:y.ms.length<bt):aU d0 66 [eS x,eS y] (.bool (x==y)):=by
 have an:=bC;refine aU.bn aj Tryz.func66 C C fun s I=>?_
 have U:=zB x.ms y.ms ab ax;have he:(x==y)=(decide (x.atom=y.atom)&&(decide (x.no=y.no)&&(decide (x.yes=y.yes)&&x.ms==y.ms))):=by
  obtain ⟨a,b,c,d⟩:=x;obtain ⟨c3,aT,nA,cX⟩:=y;rw [ad1];simp
 unfold eS hy bk at *
 repeat' (first|(with_reducible first|apply ae.seq|apply b0|apply ae.ret)|refine c1 C ?_|refine ae.cA ?_|refine aa.nil ?_|refine cx C ?_|refine aa.skip C C C ?_|refine aa.dX C C C C C cq ?_|(fail_if_success refine aa.same true C ?_);(fail_if_success refine aa.same false C ?_);refine aa.hq C C (fun h=>?_) (fun h=>?_))
 all_goals (refine Fin.cL I C (aR.of_eq (ac5 af.bool ?_));rw [he];clear I U he;grind)
theorem K7 (a b:List bJ) (a8:a.length<bt) (dF:b.length<bt) (Tq:∀ x∈a,x.ms.length<bt) (vJ:∀ x∈b,x.ms.length<bt):aU d0 15 [iq a,iq b] (.bool (a==b)):=by
 have an:=bC;refine aU.bn aj Tryz.func15 C C fun s I=>?_
 unfold iq;refine ck ?_;refine ae.cond C (fun cp=>?_) (fun heq=>?_)
 ·have cp:a.length≠b.length:=by simp at cp;omega
  have:(a==b)=false:=by rw [beq_eq_false_iff_ne];rintro rfl;exact cp C
  rw [this];refine gO ?_;exact bA I
 have heq:a.length=b.length:=by simp at heq;omega
 refine j5 ?_;refine ae.cl [0,1] C I (σ:=Nat) (fun j=>[(5,.int .i64 (j:Int))]) (fun _=>[]) (fun j=>j≤a.length∧(a==b)=(a.drop j==b.drop j)) (fun j=>a.length-j) 0 ⟨g9 _,by simp⟩ (cI C) .nil ?_;rintro j ⟨aO,aw⟩ I
 try simp only at aO aw I ⊢
 refine ck ?_;refine ae.cond C (fun az=>?_) (fun a'=>?_);rotate_left
 ·have a':j=a.length:=by simp at a';omega
  rw [eR ag,eR (l:=b) ag] at aw;rw [aw];refine eH ?_;exact bA I
 have az:j<a.length:=by simpa using az
 obtain ⟨x,ab,ct⟩:=cf (f:=eS) az;obtain ⟨y,ax,da⟩:=cf (f:=eS) (show j<b.length by omega);have ao:=Tp x y (Tq x (d6 ab)) (vJ y (d6 ax));rw [drop_cons ab,drop_cons ax,List.cons_beq_cons] at aw;unfold eS hy bk at ct da ao;cases aF:x==y with
 | false=>
  rw [aF] at ao;rw [aw,aF,f7];refine cD ?_;exact bA I
 | true=>
  rw [aF] at ao;rw [aF,f4] at aw;refine cD ?_;exact bF.mk (j+1) I ⟨az,aw⟩ cC .nil zl
abbrev jS:=List (Int×af)
def ph (l:jS):List (af×af):=l.map fun e=>(.int .i64 e.1,e.2)
def nJ (l:jS) (n:Int):Option af:=(l.find? fun e=>n==e.1).map (·.2)
def rn:jS→Int→af→jS
 | [],n,v=>[(n,v)]
 | e::r,n,v=>if n==e.1 then (n,v)::r else e::rn r n v
theorem F8:∀ (l:jS) (n m:Int) (v:af),nJ (rn l n v) m=if m=n then some v else nJ l m
  | [],n,m,v=>by
    unfold rn nJ;by_cases h:m=n
    · subst h;simp
    · have:(m==n)=false:=by simpa using h
      simp [h,this]
  | (k,x)::r,n,m,v=>by
    have aX:=F8 r n m v;rw [rn];by_cases h:n=k
    · subst h
      rw [f9 bc];unfold nJ;by_cases ad:m=n
      · subst ad;simp
      · have:(m==n)=false:=by simpa using ad
        simp [ad,this]
    · rw [f0 gT]
      unfold nJ at aX ⊢;by_cases ad:m=k
      · subst ad
        have:¬ m=n:=fun e=>h e.symm
        simp [this]
      · have al:(m==k)=false:=by simpa using ad
        simp only [av2,al];exact aX
theorem tU (n:Int):∀ l:jS,iJ (ph l) (.int .i64 n)=some (nJ l n)
  | []=>rfl
  | (k,x)::r=>by
    have aX:=tU n r;unfold ph nJ at *;rw [ac0,iJ];by_cases h:n=k
    · subst h;simp [jN]
    · have al:(n==k)=false:=by simpa using h
      simp only [jN,al,av2];simpa using aX
theorem tV (n:Int) (v:af):∀ l:jS,k9 (ph l) (.int .i64 n) v=some (ph (rn l n v))
  | []=>rfl
  | (k,x)::r=>by
    have aX:=tV n v r;unfold ph at *;rw [ac0,k9,rn];by_cases h:n=k
    · subst h;simp [jN]
    · have al:(n==k)=false:=by simpa using h
      simp only [jN,al];simp [aX]
def kc {α:Type} (e:α→α→Bool):List α→List α→Bool
 | [],[]=>true
 | x::r,y::t=>e x y&&kc e r t
 | _,_=>false
theorem F9 {α:Type} (e:α→α→Bool):∀ (a b:List α),a.length≠b.length→kc e a b=false
 | [],[],h=>absurd C h
 | [],_::_,_=>rfl
 | _::_,[],_=>rfl
 | x::r,y::t,h=>by rw [kc,F9 e r t gT,Bool.and_false]
theorem CH (x:bJ):eS x = .agg (hy x):=rfl
theorem F' (fv:af) (e:aq→aq→Bool) (a b:List aq) (aB:a.length<bt) (xw:b.length<bt) (bp:∀ x∈a,∀ y∈b,ee d0 fv [aq.cb x,aq.cb y] (.bool (e x y))) :
  aU d0 94 [.ay 6 (a.map aq.cb) .aZ,.ay 6 (b.map aq.cb) .aZ,fv] (.bool (kc e a b)):=by
 have an:=bC;refine aU.bn aj Tryz.func94 C C fun s I=>?_
 refine ck ?_;refine ae.cond C (fun h=>?_) (fun h=>?_)
 ·have cp:a.length≠b.length:=by simp at h;omega
  rw [F9 e a b cp];refine gO ?_;exact bA I
 ·have eZ:a.length=b.length:=by simp at h;omega
  refine j5 ?_;refine ae.cl [0,1,2,15,16] C I (σ:=Nat) (fun j=>[(17,.int .i64 (j:Int))]) (fun _=>[]) (fun j=>j≤a.length∧kc e a b=kc e (a.drop j) (b.drop j)) (fun j=>a.length-j) 0 ⟨g9 _,rfl⟩ (cI C) a7 ?_;rintro j ⟨aO,aw⟩ I;refine ck ?_;refine ae.cond C (fun az=>?_) (fun a'=>?_);rotate_left;have a':j=a.length:=by
   have:a.length≤j:=by simpa using a'
   omega
  ·rw [eR ag,eR ag] at aw
   rw [aw];refine eH ?_;exact bA I
  have az:j<a.length:=by simpa using az
  obtain ⟨x,ab,ct⟩:=cf (f:=aq.cb) az;obtain ⟨y,ax,da⟩:=cf (f:=aq.cb) (by omega:j<b.length);have aF:=bp x (d6 ab) y (d6 ax);rw [aq.cE] at ct;rw [aq.cE] at da;rw [aq.cE,aq.cE] at aF;rw [drop_cons ab,drop_cons ax,kc] at aw;refine ej ?_;refine aa.dO aj I C C C C C C C (fun hU I=>?_);refine B9 I ?_;intro I;refine aa.dO aj I C C C C C C C (fun dL I=>?_);refine B9 I ?_;intro I;refine aa.ll C C C C C C aF ?_;cases ar:e x y with
  | false=>
   rw [aw,ar,f7];refine fB ?_;exact bA I
  | true=>
   rw [ar,f4] at aw;refine bG ?_;refine bF.mk (j+1) I ⟨az,aw⟩ cC a7 zl
theorem K8 (fv:af) (e:bJ→bJ→Bool) (a b:List bJ) (aB:a.length<bt) (xw:b.length<bt) (bp:∀ x∈a,∀ y∈b,ee d0 fv [eS x,eS y] (.bool (e x y))) :
  aU d0 56 [.ay 4 (a.map eS) .aZ,.ay 4 (b.map eS) .aZ,fv] (.bool (kc e a b)):=by
 have an:=bC;refine aU.bn aj Tryz.func56 C C fun s I=>?_
 refine ck ?_;refine ae.cond C (fun h=>?_) (fun h=>?_)
 ·have cp:a.length≠b.length:=by simp at h;omega
  rw [F9 e a b cp];refine gO ?_;exact bA I
 ·have eZ:a.length=b.length:=by simp at h;omega
  refine j5 ?_;refine ae.cl [0,1,2,15,16] C I (σ:=Nat) (fun j=>[(17,.int .i64 (j:Int))]) (fun _=>[]) (fun j=>j≤a.length∧kc e a b=kc e (a.drop j) (b.drop j)) (fun j=>a.length-j) 0 ⟨g9 _,rfl⟩ (cI C) a7 ?_;rintro j ⟨aO,aw⟩ I;refine ck ?_;refine ae.cond C (fun az=>?_) (fun a'=>?_);rotate_left;have a':j=a.length:=by
   have:a.length≤j:=by simpa using a'
   omega
  ·rw [eR ag,eR ag] at aw
   rw [aw];refine eH ?_;exact bA I
  have az:j<a.length:=by simpa using az
  obtain ⟨x,ab,ct⟩:=cf (f:=eS) az;obtain ⟨y,ax,da⟩:=cf (f:=eS) (by omega:j<b.length);have aF:=bp x (d6 ab) y (d6 ax);rw [CH] at ct;rw [CH] at da;rw [CH,CH] at aF;rw [drop_cons ab,drop_cons ax,kc] at aw;refine ej ?_;refine aa.dO aj I C C C C C C C (fun hU I=>?_);refine B9 I ?_;intro I;refine aa.dO aj I C C C C C C C (fun dL I=>?_);refine B9 I ?_;intro I;refine aa.ll C C C C C C aF ?_;cases ar:e x y with
  | false=>
   rw [aw,ar,f7];refine fB ?_;exact bA I
  | true=>
   rw [ar,f4] at aw;refine bG ?_;refine bF.mk (j+1) I ⟨az,aw⟩ cC a7 zl
theorem zS {α:Type} (q:α→Bool) (l:List α):(!l.any fun x => !q x)=l.all q:=by
 induction l with
 | nil=>rfl
 | cons x r aX=>rw [List.any_cons,aj6,Bool.not_or,Bool.not_not,aX]
theorem Tr (fv:af) (q:Bool) (x:aq) (h:ee d0 fv [aq.cb x] (.bool q)):ee d0 (.func 234 [] [.bs [fv] 0]) [aq.cb x] (.bool (!q)):=by
 refine ee.fa (first:=[]) (cap:=[.bs [fv] 0]) ?_;refine aU.bn aj Tryz.func234 C C fun s I=>?_
 rw [aq.cE] at h ⊢;refine dz ?_;refine aa.ll C C C C C C h ?_;refine dY ?_;exact bA I
theorem Ts (f:FuncId) (h8 hf:List af) (q:aq→Bool) (xs:List aq) (aB:xs.length<bt) (h:∀ x∈xs,ee d0 (.func f h8 hf) [aq.cb x] (.bool (q x))) :
  aU d0 200 [.ay 6 (xs.map aq.cb) .aZ,.func f h8 hf] (.bool (xs.all q)):=by
 rw [← zS];refine aU.bn aj Tryz.func200 C C fun s I=>?_
 have aF:=S2 (.func 234 [] [.bs [.func f h8 hf] 0]) (fun x => !q x) xs aB (fun x ab=>Tr (.func f h8 hf) (q x) x (h x ab));refine dz ?_;refine aa.dX C C C C C aF ?_;refine dY ?_;exact bA I
def pj (x:aq×Bool):List af:=x.1.cells++[.bool x.2]
def hR (x:aq×Bool):af := .agg (pj x)
theorem Tt (l:List e3):∀ y∈l.map gI,iK 3 y=true:=by
 intro y ax;obtain ⟨z,-,rfl⟩:=ad2.1 ax;first|rfl|(rw [gI];rfl)
theorem Ga (l:List Int):∀ y∈l.map bb,iK 1 y=true:=by
 intro y ax;obtain ⟨z,-,rfl⟩:=ad2.1 ax;first|rfl|(rw [bb];rfl)
theorem zT (l:List Int) (own:bN) (aB:l.length<bt):aU d0 47 [.ay 1 (l.map bb) own] (.ay 1 (l.map bb) .aZ):=by
 have an:=bC;refine aU.bn aj Tryz.func47 C C fun s I=>?_
 refine dz ?_;refine aa.op C C C (aW.vL aj C C C C (X:=fun _ _=>False)) ?_ (fun _ _ h=>False.elim h);rintro r ai ⟨rfl,⟨rfl,aA⟩|rfl⟩
 ·refine dT ?_
  refine Fin.cL I C ?_;rw [aA];exact aR.empty
 ·refine bG ?_
  refine aa.q2 aj C C C C C C C ef C C C (.inl C) (.inr C) C (Ga _) F4 vN (.inr C) ?_;refine dY ?_;exact bA I
theorem Tu (l:List hX):∀ y∈l.map gj,iK 3 y=true:=by
 intro y ax;obtain ⟨z,-,rfl⟩:=ad2.1 ax;first|rfl|(rw [gj];rfl)
theorem Tv (l:List gP):∀ y∈l.map jf,iK 9 y=true:=by
 intro y ax;obtain ⟨z,-,rfl⟩:=ad2.1 ax;first|rfl|(rw [jf];rfl)
theorem Tw (l:List (aq×Bool)):∀ y∈l.map hR,iK 7 y=true:=by
 intro y ax;obtain ⟨z,-,rfl⟩:=ad2.1 ax;first|rfl|(rw [hR];rfl)
theorem Tx (xs:List af) (own:bN):aU d0 193 [.ay 2 xs own] (.ay 2 xs .clip):=by
 refine aU.bn aj Tryz.func193 C C fun s I=>?_
 refine dz ?_;refine aa.slice aj 0 xs.length C C C C C C C C (.inr C) (.inl ⟨rfl,rfl⟩) (.inr ⟨_,_,rfl,rfl⟩) (.inr ⟨_,_,rfl,rfl,rfl⟩) ag (i0 _) ?_;rw [ac',aj'];refine dY ?_;exact bA I
theorem Gb (xs:List af) (own:bN):aU d0 194 [.ay 1 xs own] (.ay 1 xs .clip):=by
 refine aU.bn aj Tryz.func194 C C fun s I=>?_
 refine dz ?_;refine aa.slice aj 0 xs.length C C C C C C C C (.inr C) (.inl ⟨rfl,rfl⟩) (.inr ⟨_,_,rfl,rfl⟩) (.inr ⟨_,_,rfl,rfl,rfl⟩) ag (i0 _) ?_;rw [ac',aj'];refine dY ?_;exact bA I
theorem Ty (xs:List af) (own:bN):aU d0 262 [.ay 1 xs own] (.ay 1 xs .clip):=by
 refine aU.bn aj Tryz.func262 C C fun s I=>?_
 refine dz ?_;refine aa.slice aj 0 xs.length C C C C C C C C (.inr C) (.inl ⟨rfl,rfl⟩) (.inr ⟨_,_,rfl,rfl⟩) (.inr ⟨_,_,rfl,rfl,rfl⟩) ag (i0 _) ?_;rw [ac',aj'];refine dY ?_;exact bA I
theorem Tz (fv:af) (q:Bool) (x:Int) (h:ee d0 fv [bb x] (.bool q)):ee d0 (.func 233 [] [.bs [fv] 0]) [bb x] (.bool (!q)):=by
 refine ee.fa (first:=[]) (cap:=[.bs [fv] 0]) ?_;refine aU.bn aj Tryz.func233 C C fun s I=>?_
 rw [bb] at h ⊢;refine dz ?_;refine aa.ll C C C C C C h ?_;refine dY ?_;exact bA I
theorem K9 (f:FuncId) (h8 hf:List af) (q:Int→Bool) (xs:List Int) (aB:xs.length<bt) (h:∀ x∈xs,ee d0 (.func f h8 hf) [bb x] (.bool (q x))) :
  aU d0 198 [.ay 1 (xs.map bb) .aZ,.func f h8 hf] (.bool (xs.all q)):=by
 rw [← zS];refine aU.bn aj Tryz.func198 C C fun s I=>?_
 have aF:=S5 (.func 233 [] [.bs [.func f h8 hf] 0]) (fun x => !q x) xs aB (fun x ab=>Tz (.func f h8 hf) (q x) x (h x ab));refine dz ?_;refine aa.dX C C C C C aF ?_;refine dY ?_;exact bA I
theorem TA (fv:af) (q:Bool) (x:(Int×Int)) (h:ee d0 fv [fK x] (.bool q)):ee d0 (.func 208 [] [.bs [fv] 0]) [fK x] (.bool (!q)):=by
 refine ee.fa (first:=[]) (cap:=[.bs [fv] 0]) ?_;refine aU.bn aj Tryz.func208 C C fun s I=>?_
 rw [fK] at h ⊢;refine dz ?_;refine aa.ll C C C C C C h ?_;refine dY ?_;exact bA I
theorem K' (f:FuncId) (h8 hf:List af) (q:(Int×Int)→Bool) (xs:List (Int×Int)) (aB:xs.length<bt) (h:∀ x∈xs,ee d0 (.func f h8 hf) [fK x] (.bool (q x))) :
  aU d0 168 [.ay 2 (xs.map fK) .aZ,.func f h8 hf] (.bool (xs.all q)):=by
 rw [← zS];refine aU.bn aj Tryz.func168 C C fun s I=>?_
 have aF:=S8 (.func 208 [] [.bs [.func f h8 hf] 0]) (fun x => !q x) xs aB (fun x ab=>TA (.func f h8 hf) (q x) x (h x ab));refine dz ?_;refine aa.dX C C C C C aF ?_;refine dY ?_;exact bA I
theorem TB (fv:af) (q:Bool) (x:ev) (h:ee d0 fv [iG x] (.bool q)):ee d0 (.func 240 [] [.bs [fv] 0]) [iG x] (.bool (!q)):=by
 refine ee.fa (first:=[]) (cap:=[.bs [fv] 0]) ?_;refine aU.bn aj Tryz.func240 C C fun s I=>?_
 rw [iG] at h ⊢;refine dz ?_;refine aa.ll C C C C C C h ?_;refine dY ?_;exact bA I
theorem TC (f:FuncId) (h8 hf:List af) (q:ev→Bool) (xs:List ev) (aB:xs.length<bt) (h:∀ x∈xs,ee d0 (.func f h8 hf) [iG x] (.bool (q x))) :
  aU d0 203 [.ay 2 (xs.map iG) .aZ,.func f h8 hf] (.bool (xs.all q)):=by
 rw [← zS];refine aU.bn aj Tryz.func203 C C fun s I=>?_
 have aF:=Ta (.func 240 [] [.bs [.func f h8 hf] 0]) (fun x => !q x) xs aB (fun x ab=>TB (.func f h8 hf) (q x) x (h x ab));refine dz ?_;refine aa.dX C C C C C aF ?_;refine dY ?_;exact bA I
theorem Gc (f:aq):aU d0 171 [f.cb] (.bool f.c7):=by
 have an:=bC;refine aU.bn aj Tryz.func171 C C fun s I=>?_
 rw [aq.cE]
 repeat' (first|(with_reducible first|apply ae.seq|apply b0|apply ae.ret)|refine c1 C ?_|refine ae.cA ?_|refine aa.nil ?_|refine cx C ?_|refine aa.skip C C C ?_|(fail_if_success refine aa.same true C ?_);(fail_if_success refine aa.same false C ?_);refine aa.hq C C (fun h=>?_) (fun h=>?_))
 all_goals exact Fin.cL I C (aR.of_eq (by first|(simp_all [aq.c7];done)|(simp_all [aq.c7]<;>omega)))
theorem TD (op:Int):aU d0 235 [.int .i64 op] (.int .i64 (q9 op)):=by
 have an:=bC;refine aU.bn aj Tryz.func235 C C fun s I=>?_
 repeat' (first|(with_reducible first|apply ae.seq|apply b0|apply fW|apply fz|apply hr|apply ae.ret|apply ae.skip|apply ae.block)|refine c1 C ?_|refine ae.cond C (fun h=>?_) (fun h=>?_))
 all_goals exact Fin.cL I C (aR.of_eq (by first|(simp_all [q9];done)|(simp_all [q9]<;>omega)))
theorem La (f g:aq) (a1:f.path.length<bt) (au:g.path.length<bt):aU d0 104 [f.cb,g.cb] (.bool (decide (f.op=g.op)&&(decide (f.arg=g.arg)&&(decide (f.cls=g.cls)&&(decide (f.n=g.n)&&f.path==g.path))))):=by
 have an:=bC;refine aU.bn aj Tryz.func104 C C fun s I=>?_
 rw [aq.cE,aq.cE];have U:=tM f.path g.path a1 au;unfold bk bb at U
 repeat' (first|(with_reducible first|apply ae.seq|apply b0|apply ae.ret)|refine c1 C ?_|refine ae.cA ?_|refine aa.nil ?_|refine cx C ?_|refine aa.skip C C C ?_|refine aa.dX C C C C C cq ?_|(fail_if_success refine aa.same true C ?_);(fail_if_success refine aa.same false C ?_);refine aa.hq C C (fun h=>?_) (fun h=>?_))
 all_goals exact Fin.cL I C (aR.of_eq sN)
theorem TE {m c n:Nat} (h:m<n):m >>> c<n:=by
 rw [Nat.shiftRight_eq_div_pow];exact Nat.lt_of_le_of_lt (Nat.div_le_self _ _) h
theorem TF (m c:Nat):decide ((((m >>> c) &&& 1:Nat):Int)=1)=m.testBit c:=by
 rw [Nat.testBit,aA1];have h:1 &&& (m >>> c)=(m >>> c) % 2:=by rw [aA1];exact Nat.and_one_is_mod _
 rw [h];rcases Nat.mod_two_eq_zero_or_one (m >>> c) with e|e<;>rw [e]<;>rfl
theorem Lb {c:Nat} (h:c<64):2^c<2^64:=ag6 ag h
theorem xG (m c:Nat) (hm:m<2^64) (aF:c<64):aU d0 173 [.int .u64 (m:Int),.int .i64 (c:Int)] (.bool (m.testBit c)):=by
 have an:=bC;refine aU.bn aj Tryz.func173 C C fun s I=>?_
 refine dz ?_;refine aa.shr ((m >>> c:Nat):Int) C C C C C C ag (tH aF) ?_;refine aa.bits (((m >>> c) &&& 1:Nat):Int) C C C C C C (tG (TE hm) dE) ?_;refine dY ?_;refine Fin.cL I C (aR.of_eq ?_);rw [← TF];rfl
theorem zU (m c:Nat) (hm:m<2^64) (aF:c<64):aU d0 197 [.int .u64 (m:Int),.int .i64 (c:Int)] (.int .u64 ((m|||2^c:Nat):Int)):=by
 have an:=bC;refine aU.bn aj Tryz.func197 C C fun s I=>?_
 refine dz ?_;refine aa.shl ((2^c:Nat):Int) C C C C C C ag (Cj aF) ?_;refine aa.bits ((m|||2^c:Nat):Int) C C C C C C (vC hm (Lb aF)) ?_;refine dY ?_;exact bA I
def pk (w:bw) (up:List Nat):List af:=fu w++up.map fun n => .int .u64 (n:Int)
def e1 (w:bw) (up:List Nat):af := .bs (pk w up) 0
theorem Lc (w:bw) (up:List Nat) (c:Int) (hw:w.ps.length≤60):aU d0 199 [e1 w up,.int .i64 c] (.bool (decide (c≥3)&&decide (c<3+(w.ps.length:Int)))):=by
 have an:=bC;refine aU.bn aj Tryz.func199 C C fun s I=>?_
 unfold e1 pk fu dv bk;have eg:aa' .i64 (3+((w.ps.map bk).length:Int))=3+(w.ps.length:Int):=by rw [f5,er ag ag]
 unfold bk at eg
 repeat' (first|(with_reducible first|apply ae.seq|apply b0|apply ae.ret)|refine c1 C ?_|refine ae.cA ?_|refine aa.nil ?_|refine cx C ?_|refine aa.skip C C C ?_|(fail_if_success refine aa.same true C ?_);(fail_if_success refine aa.same false C ?_);refine aa.hq C C (fun h=>?_) (fun h=>?_))
 all_goals exact Fin.cL I C (aR.of_eq sN)
theorem TG (w:bw) (up:List Nat) (c:Int) (hw:w.ps.length≤60):aU d0 237 [e1 w up,.int .i64 c] (.bool (decide (c≥0)&&decide (c<3+(w.ps.length:Int)))):=by
 have an:=bC;refine aU.bn aj Tryz.func237 C C fun s I=>?_
 unfold e1 pk fu dv bk;have eg:aa' .i64 (3+((w.ps.map bk).length:Int))=3+(w.ps.length:Int):=by rw [f5,er ag ag]
 unfold bk at eg
 repeat' (first|(with_reducible first|apply ae.seq|apply b0|apply ae.ret)|refine c1 C ?_|refine ae.cA ?_|refine aa.nil ?_|refine cx C ?_|refine aa.skip C C C ?_|(fail_if_success refine aa.same true C ?_);(fail_if_success refine aa.same false C ?_);refine aa.hq C C (fun h=>?_) (fun h=>?_))
 all_goals exact Fin.cL I C (aR.of_eq sN)
theorem TH (w:bw) (up:List Nat) (c:Int):aU d0 263 [e1 w up,.int .i64 c] (.bool (decide (c≥0)&&decide (c<(w.owner.length:Int)))):=by
 have an:=bC;refine aU.bn aj Tryz.func263 C C fun s I=>?_
 unfold e1 pk fu dv bk
 repeat' (first|(with_reducible first|apply ae.seq|apply b0|apply ae.ret)|refine c1 C ?_|refine ae.cA ?_|refine aa.nil ?_|refine cx C ?_|refine aa.skip C C C ?_|(fail_if_success refine aa.same true C ?_);(fail_if_success refine aa.same false C ?_);refine aa.hq C C (fun h=>?_) (fun h=>?_))
 all_goals exact Fin.cL I C (aR.of_eq sN)
theorem TI (w:bw) (up:List Nat) (c:Int):ee d0 (.func 263 [e1 w up] []) [bb c] (.bool (decide (c≥0)&&decide (c<(w.owner.length:Int)))):=
 ee.fa (first:=[e1 w up]) (cap:=[]) (TH w up c)
theorem TJ (w:bw) (up:List Nat) (c:Int) (hw:w.ps.length≤60):ee d0 (.func 199 [e1 w up] []) [bb c] (.bool (decide (c≥3)&&decide (c<3+(w.ps.length:Int)))):=
 ee.fa (first:=[e1 w up]) (cap:=[]) (Lc w up c hw)
theorem TK (w:bw) (up:List Nat) (l:List Int) (aB:l.length<bt):aU d0 236 [e1 w up,bk l] (.bool (decide (l.length≤2)&&l.all fun c=>decide (c≥0)&&decide (c<(w.owner.length:Int)))):=by
 have an:=bC;refine aU.bn aj Tryz.func236 C C fun s I=>?_
 have U:=K9 263 [e1 w up] [] _ l aB (fun x _=>TI w up x);unfold bk;unfold e1 at U ⊢
 repeat' (first|(with_reducible first|apply ae.seq|apply b0|apply ae.ret)|refine c1 C ?_|refine ae.cA ?_|refine aa.nil ?_|refine cx C ?_|refine aa.skip C C C ?_|refine aa.dX C C C C C cq ?_|(fail_if_success refine aa.same true C ?_);(fail_if_success refine aa.same false C ?_);refine aa.hq C C (fun h=>?_) (fun h=>?_))
 all_goals exact Fin.cL I C (aR.of_eq sN)
theorem TL (b:Bool):aU d0 261 [.bool b] (.int .i64 (if b then 0 else 2)):=by
 have an:=bC;refine aU.bn aj Tryz.func261 C C fun s I=>?_
 repeat' (first|(with_reducible first|apply ae.seq|apply b0|apply fW|apply ae.ret|apply ae.skip)|refine c1 C ?_|refine ae.cond C (fun h=>?_) (fun h=>?_))
 all_goals exact Fin.cL I C (aR.of_eq sN)
def nK (m:Nat):af := .agg [.int .u64 (m:Int)]
theorem Ld (m c:Nat) (hm:m<2^64) (aF:c<64):aU d0 286 [nK m,.int .i64 (c:Int)] (nK (m|||2^c)):=by
 have an:=bC;refine aU.bn aj Tryz.func286 C C fun s I=>?_
 unfold nK
 repeat (first|(refine q4 ?_)|refine aa.jE I C C C C C C (fun b I=>?_)|refine aa.dO aj I C C C C C C C (fun cy I=>?_)|(refine RV ?_))
 refine aL.arr aj 0 C C C C C C C C C C ag ?_;refine cm I ?_;intro I;refine aL.shl ((2^c:Nat):Int) C C C C C C ag (Cj aF) ?_;refine aL.bits ((m|||2^c:Nat):Int) C C C C C C (vC hm (Lb aF)) ?_;refine aL.arr aj 0 C C C C C C C C C C ag ?_;refine cm I ?_;intro I;exact Fin.cL I (pc C C (bl.get aV I) C) aM
theorem TM (m n:Nat) (hm:m<2^64) (aA:n<2^64):aU d0 287 [nK m,nK n] (nK (m|||n)):=by
 have an:=bC;refine aU.bn aj Tryz.func287 C C fun s I=>?_
 unfold nK
 repeat (first|(refine q4 ?_)|refine aa.jE I C C C C C C (fun b I=>?_)|refine aa.dO aj I C C C C C C C (fun cy I=>?_)|(refine RW ?_))
 refine aa.arr aj 0 C C C C C C C C C C ag ?_;refine cm I ?_;intro I;refine aa.arr aj 0 C C C C C C C C C C ag ?_;refine cm I ?_;intro I;refine aa.bits ((m|||n:Nat):Int) C C C C C C (vC hm aA) ?_;refine aa.arr aj 0 C C C C C C C C C C ag ?_;refine cm I ?_;intro I;exact Fin.cL I (pc C C (bl.get aV I) C) aM
theorem TN (h y:Int):ee d0 (.func 308 [] [.bs [.int .i64 h] 0]) [.int .i64 y] (.bool (y != h)):=by
 have an:=bC;refine ee.fa (first:=[]) (cap:=[.bs [.int .i64 h] 0]) ?_;refine aU.bn aj Tryz.func308 C C fun s I=>?_
 refine gO ?_;exact bA I
theorem TO {all:List (List Int)} {c:Int} {k:Nat} {m:List Int} (h:all[k]? = some m):free (all.drop k) c=(!(m.drop 1).contains c&&free (all.drop (k+1)) c):=by
 rw [drop_cons h];rfl
theorem TP (n b:Nat) (jB:n<1000∧b<1000) (all:List (List Int)) (hm:qe n b all):aU d0 293 [dv all] (.cg [bk (merged all).1,.bool (merged all).2]):=by
 have an:=bC;refine aU.bn aj Tryz.func293 C C fun s I=>?_
 unfold dv;have xx:total all≤n*b:=Cz hm;have SU:n*b≤1000*1000:=Nat.mul_le_mul ag ag;refine cD ?_;refine ae.ik I 3 1 0 fun I=>?_
 refine ae.cl [] C I (σ:=Nat×List (List Int)×List Int×bN) (fun q=>[(0,.ay 1 (q.2.1.map bk) .aZ),(4,.ay 1 (q.2.2.1.map bb) q.2.2.2)]) (fun q=>[(q.2.2.2,.row 3 1 q.2.2.1.length)])
  (fun q=>merge q.1 q.2.1 q.2.2.1=merged all∧total q.2.1<q.1∧qe n b q.2.1∧q.2.2.1.length+total q.2.1≤total all) (fun q=>q.1) (total all+1,all,[],.nil) ⟨rfl,ak' _,hm,by simp⟩ ⟨⟨_,rfl,aM⟩,⟨_,rfl,aR.nil hh⟩,trivial⟩ (aH.ez _) ?_
 rintro ⟨f,cur,acc,own⟩ ⟨dQ,hv,hm,tw⟩ I;simp only at dQ hv hm tw I ⊢;have cu:=hm.len;refine cD ?_;refine ae.cl [0,4,14,15] C I (σ:=Nat×Bool) (fun z=>[(5,.bool z.2),(16,.int .i64 (z.1:Int))]) (fun _=>[(own,.row 3 1 acc.length)])
  (fun z=>z.1≤cur.length∧pick cur cur=pick cur (cur.drop z.1)∧(!z.2)=(cur.take z.1).all an2) (fun z=>cur.length-z.1) (0,false) ⟨g9 _,rfl,rfl⟩ (cI C) (aH.ez _) ?_
 rintro ⟨j,FG⟩ ⟨aO,aw,im⟩ I;simp only at aO aw im I ⊢;refine ck ?_;refine ae.cond C (fun az=>?_) (fun a'=>?_);rotate_left
 ·have a':j=cur.length:=by simp at a';omega
  subst a';rw [eR (i0 _)] at aw;rw [ac'] at im;cases f with
  | zero=>omega
  | succ f=>
   rw [merge,aw] at dQ;have dQ:(acc,cur.all an2)=merged all:=dQ;rw [← dQ,← im];refine bG ?_;exact Fin.cL I C (aR.cg (.cons aR.aZ (.one aM)))
 have az:j<cur.length:=by simpa using az
 obtain ⟨l,ax,da⟩:=cf (f:=bk) az;have Ky:=hm.each l (d6 ax);have zC:(cur.take (j+1)).all an2=((cur.take j).all an2&&l.isEmpty):=by rw [js ax,List.all_append];simp
 unfold bk at da;refine bG ?_;cases l with
 | nil=>
  rw [Kw ax] at aw;refine ae.fL C ?_;refine eH ?_;exact bF.mk (j+1,FG) I ⟨az,aw,by rw [zC,← im];simp⟩ cC (aH.ez _) (by show cur.length-(j+1)<cur.length-j;omega)
 | cons c r=>
 rw [Kx ax] at aw;refine ae.cond C (fun h=>absurd h cO) (fun _=>?_);refine j5 ?_;refine ae.cl [0,4,5,7,14,15,16,23,24] C I (σ:=Nat) (fun k=>[(25,.int .i64 (k:Int))]) (fun _=>[(own,.row 3 1 acc.length)]) (fun k=>k≤cur.length∧free cur c=free (cur.drop k) c) (fun k=>cur.length-k) 0 ⟨g9 _,rfl⟩ (cI C) (aH.ez _) ?_;rintro k ⟨aD,bm⟩ I;refine ck ?_;refine ae.cond C (fun cU=>?_) (fun et=>?_)
 ·have cU:k<cur.length:=by simpa using cU
  obtain ⟨m,oC,TQ⟩:=cf (f:=bk) cU;have hx:=hm.each m (d6 oC);rw [TO oC] at bm;have hY:=vH (m.drop 1) c (by rw [ag1];omega);unfold bk at hY TQ;rw [List.map_drop] at hY;have Kz:((c::r).map bb)[0]? = some (.int .i64 c):=rfl;cases m with
  | nil=>
   have bm:free cur c=free (cur.drop (k+1)) c:=bm;refine cD ?_;exact bF.mk (k+1) I ⟨cU,bm⟩ cC (aH.ez _) (by show cur.length-(k+1)<cur.length-k;omega)
  | cons x q=>
   refine p6 ?_;refine aL.hq C C (fun _=>?_) (fun h=>absurd h bc);refine kW ?_;refine aL.slice 1 ((x::q).map bb).length C C C C C C C C (.inr C) (.inr ⟨_,_,rfl,rfl⟩) (.inl ⟨rfl,rfl,rfl⟩) (.inl ⟨rfl,rfl⟩) bc (i0 _) ?_;rw [ac'];refine di ?_;cases bB:((x::q).drop 1).contains c with
   | true=>
    rw [bB,Bool.not_true,f7] at bm;rw [bm,f0 bc] at aw;refine bG ?_;exact bF.mk (j+1,true) I ⟨az,aw,by rw [zC];simp⟩ cC (aH.ez _) (by show cur.length-(j+1)<cur.length-j;omega)
   | false=>
    rw [bB,Bool.not_false,f4] at bm;refine jF ?_;exact bF.mk (k+1) I ⟨cU,bm⟩ cC (aH.ez _) (by show cur.length-(k+1)<cur.length-k;omega)
 have et:k=cur.length:=by simp at et;omega
 subst et;rw [eR (i0 _)] at bm;have bm:free cur c=true:=bm;rw [f9 bm] at aw;cases f with
 | zero=>omega
 | succ f=>
 have KA:=Ck (tI aw);rw [merge,aw] at dQ;simp only at dQ;have Kz:((c::r).map bb)[0]? = some (.int .i64 c):=rfl;refine fP ?_;refine aa.gq aj I C C C C C C C ef C C C C C C C C aV h7 kX ag (fun b2 I=>?_);refine bG ?_;obtain ⟨xs,ek⟩:∃ xs:Nat→List af,∀ j,xs j=((cur.take j).map (fh c)).map bk:=⟨_,fun _=>rfl⟩;have bo:xs 0=[]:=by rw [ek];rfl
 have hN:∀ j,(xs j).length≤cur.length:=fun j=>by
  rw [ek,f5,f5];exact ai1 _ _
 refine ae.ik I 23 1 0 fun I=>?_
 refine ae.cl [4,10,48,49] C I (σ:=Nat×bN) (fun q=>[(50,.int .i64 (q.1:Int)),(11,.ay 1 (xs q.1) q.2)]) (fun q=>[(q.2,.row 23 1 (xs q.1).length),(.own b2,.row 3 1 (acc.length+1))]) (fun q=>q.1≤cur.length) (fun q=>cur.length-q.1) (0,.nil) (g9 _) ⟨⟨_,rfl,aM⟩,⟨_,rfl,by rw [bo];exact aR.nil hh⟩,trivial⟩ Fa ?_;rintro ⟨i,tN⟩ aS I;simp only at aS I ⊢;refine ck ?_;refine ae.cond C (fun k1=>?_) (fun lu=>?_)
 ·have k1:i<cur.length:=by simpa using k1
  obtain ⟨l,ax,da⟩:=cf (f:=bk) k1;have ao:=ek (i+1);rw [js ax,ac2,ac2,← ek] at ao;have ao:xs (i+1)=xs i++[.ay 1 ((fh c l).map bb) .aZ]:=ao;have dj:(xs (i+1)).length=(xs i).length+1:=by rw [ao];simp
  have nq:=hN i;have hw:=Ku (.func 308 [] [.bs [.int .i64 c] 0]) (fun y=>y != c) (fun y=>TN c y) l (by have:=(hm.each l (d6 ax)).1;omega);have hw:aU d0 307 [.ay 1 (l.map bb) .aZ,.func 308 [] [.bs [.int .i64 c] 0]] (.ay 1 ((fh c l).map bb) .aZ):=hw;unfold bk at da;refine di ?_;refine aa.gq aj I C C C C C C C ef C C C C C C C C aV h7 pa ag (fun eJ I=>?_);refine hI ?_;exact bF.mk (i+1,.own eJ) I k1 o9 (by show aH _ [(_,.row _ _ (xs (i+1)).length),_] _;rw [dj];exact aH.ez _) Ff
 ·have lu:i=cur.length:=by
   have:cur.length≤i:=by simpa using lu
   omega
  subst lu;have he:xs cur.length=(cur.map (fh c)).map bk:=by rw [ek,ac']
  rw [he] at I ⊢;refine bG ?_;exact bF.mk (f,cur.map (fh c),acc++[c],.own b2) I ⟨dQ,by show total (cur.map (fh c))<f;omega,hm.fh c,by show (acc++[c]).length+total (cur.map (fh c))≤total all;rw [d9,ac8];omega⟩ ⟨⟨_,rfl,aR.aZ⟩,⟨_,rfl,aR.of_eq (by simp [bb])⟩,trivial⟩ (by show aH _ [(_,.row _ _ (acc++[c]).length)] _;rw [d9,ac8];exact (aH.ez _).there) (by show f<f+1;omega)
def ji (ps:List (List Int)) (hZ:bN) (us:List Nat) (gk:bN) (mb:Nat):List af:=[.ay 1 (ps.map bk) hZ,.ay 1 (us.map nK) gk,.map mb]
def gl (cd:Nat) (ps:List (List Int)) (hZ:bN) (us:List Nat) (gk:bN) (mb:Nat) (fb:jS):a6:=
 [(.own cd,.box 327 (ji ps hZ us gk mb)),(hZ,.row 23 1 ps.length),(gk,.row 346 1 us.length),(.own mb,.map (ph fb))]
def TR (o:Option af) (l:List Int):Prop:=match l with
 | []=>o=none
 | x::r=>∃ v,o=some v∧aR v (.ay 1 ((x::r).map bb) .aZ)
def qi (fb:jS) (os:List (List Int)):Prop:=∀ c:Nat,TR (nJ fb (c:Int)) (os.getD c [])
def qj (os:List (List Int)) (l:List Int):Option (List (List Int)):=(iB os l).map fun r=>r++[l]
theorem TS (cd:Nat) (ps:List (List Int)) (hZ:bN) (us:List Nat) (gk:bN) (mb:Nat) (fb:jS) (os:List (List Int)) (du:qi fb os) (zE:∀ l∈os,l.length<1000) (c:Nat) (l:List Int) (aB:ps[c]? = some l) (qd:l.length≤3) (oy:∀ p∈l,0≤p) :
  bz d0 292 [.ptr cd 0,.int .i64 (c:Int)] (gl cd ps hZ us gk mb fb) (fun o K=>o = .ret (tO (qj os l))∧K=gl cd ps hZ us gk mb fb):=by
 have an:=bC;have o6:(ps.map bk)[c]? = some (.ay 1 (l.map bb) .aZ):=by rw [ad7,aB];rfl
 refine bz.bn aj Tryz.func292 C C fun s I=>?_
 unfold gl ji at I ⊢;refine ha I ?_;intro I;refine ae.ik I 23 1 0 fun I=>?_
 refine ae.cl [0,1,15,16] C I (σ:=Nat×List (List Int)×bN) (fun q=>[(17,.int .i64 (q.1:Int)),(6,.ay 1 (q.2.1.map bk) q.2.2)]) (fun q=>(q.2.2,.row 23 1 q.2.1.length)::gl cd ps hZ us gk mb fb) (fun q=>q.1≤l.length∧q.2.1.length=q.1∧iB os l=pre (iB os (l.drop q.1)) q.2.1) (fun q=>l.length-q.1) (0,[],.nil) ⟨g9 _,rfl,(KE _).symm⟩ ⟨⟨_,rfl,aM⟩,⟨_,rfl,aR.nil hh⟩,trivial⟩ (by simp only [gl,ji];exact a7) ?_;rintro ⟨j,acc,own⟩ ⟨aO,qf,aw⟩ I;simp only [gl,ji] at aO qf aw I ⊢;refine ck ?_;refine ae.cond C (fun az=>?_) (fun a'=>?_);rotate_left
 ·have a':l.length≤j:=by simpa using a'
  rw [eR a'] at aw;have aw:iB os l=some (acc++[]):=aw;have kd:qj os l=some (acc++[l]):=by unfold qj;rw [aw];simp
  rw [kd];have FI:tO (some (acc++[l])) = .cg [.ay 1 (acc.map bk++[.ay 1 (l.map bb) .aZ]) .aZ,.bool true]:=by
   show af.cg [.ay 1 ((acc++[l]).map bk) .aZ,.bool true]=_;rw [ac2];rfl
  rw [FI];refine cm I ?_;intro I;refine aa.gq aj I C C C C C C C ef C C C C C C C C aV h7 pa ag (fun b2 I=>?_);refine dY ?_;exact Fin.bu (K:=gl cd ps hZ us gk mb fb) I C (aR.cg (.cons aR.aZ (.one aM))) (by simp only [gl,ji];exact a7) ⟨rfl,rfl⟩
 have az:j<l.length:=by simpa using az
 obtain ⟨p,ax,da⟩:=cf (f:=bb) az;rw [drop_cons ax,KF] at aw;have TT:=oy p (d6 ax);have pn:=du p.toNat;rw [Int.toNat_of_nonneg TT] at pn;have lW:(os.getD p.toNat []).length<1000:=by
  rw [d5];cases h:os[p.toNat]? with
  | none=>simp
  | some x=>exact zE x (d6 h)
 generalize os.getD p.toNat []=ol at aw pn lW;have hw:=SP ol ag;unfold bb at da;unfold bk at hw;refine cm I ?_;intro I;cases ol with
 | nil=>
  have aw:iB os l=none:=aw;have kd:qj os l=none:=by unfold qj;rw [aw];rfl
  rw [kd];have pn:nJ fb p=none:=pn;refine aa.jc aj I C C C C C C C C C C aV C (by rw [tU,pn]) C ?_;refine fB ?_;exact Fin.bu (K:=gl cd ps hZ us gk mb fb) I C (aR.cg (.cons (aR.nil hh) (.one aM))) (by simp only [gl,ji];exact a7) ⟨rfl,rfl⟩
 | cons x r=>
  obtain ⟨v,pn,zV⟩:∃ v,nJ fb p=some v∧aR v (.ay 1 ((x::r).map bb) .aZ):=pn;refine aa.jc aj I C C C C C C C C C C aV C (by rw [tU,pn]) C ?_;refine aa.mZ 26 _ C zV ?_;refine cm I ?_;intro I;refine aa.jc aj I C C C C C C C C C C aV C (by rw [tU,pn]) C ?_;refine aa.mZ 35 _ C zV ?_;refine di ?_;refine aa.gq aj I C C C C C C C ef C C C C C C C C aV h7 pa ag (fun b2 I=>?_);refine hI ?_;exact bF.mk (j+1,acc++[fh 0 (x::r)],.own b2) I ⟨az,by rw [d9,qf];rfl,aw⟩ xk (by show aH _ ((_,.row _ _ (acc++[fh 0 (x::r)]).length)::gl cd ps hZ us gk mb fb) _;rw [d9,ac8];exact (by simp only [gl,ji];exact a7)) rk
def zW (os:List (List Int)) (l:List Int) (c:Nat):List Int:=if c=0 then [0] else match qj os l with
 | none=>[]
 | some all=>if (merged all).2 then (c:Int)::(merged all).1++[0] else []
theorem Le {os:List (List Int)} {v:List Int} (c:Nat):(os++[v]).getD c []=if c=os.length then v else os.getD c []:=by
 rw [d5,d5];by_cases e:c=os.length
 ·subst e
  rw [f9 C,ad6 (i0 _)];simp
 ·rw [f0 e]
  rcases Nat.lt_or_ge c os.length with h|h
  ·rw [ad3 h]
  ·rw [aj9 cO,aj9 h]
theorem qi.su {fb:jS} {os:List (List Int)} (h:qi fb os):qi fb (os++[[]]):=fun c=>by
 rw [Le];by_cases e:c=os.length
 ·have:=h c
  rw [f9 e];rw [e,d5,aj9 (i0 _)] at this;rw [e];exact this
 ·rw [f0 e];exact h c
theorem qi.put {fb:jS} {os:List (List Int)} (h:qi fb os) {v:af} (x:Int) (r:List Int) (ar:aR v (.ay 1 ((x::r).map bb) .aZ)):qi (rn fb (os.length:Int) v) (os++[x::r]):=fun c=>by
 rw [Le,F8];by_cases e:c=os.length
 ·subst e;rw [f9 C,f9 C];exact ⟨v,rfl,ar⟩
 ·rw [f0 e,f0 ag];exact h c
theorem TU (cd:Nat) (ps:List (List Int)) (hZ:bN) (us:List Nat) (gk:bN) (mb:Nat) (fb:jS) (os:List (List Int)) (du:qi fb os) (zE:∀ l∈os,l.length<1000) (l:List Int) (aB:ps[os.length]? = some l) (qd:l.length≤3) (oy:∀ p∈l,0≤p) (Lf:∀ all,qj os l=some all→qe 4 21 all) (aa6:os.length<100) :
  bz d0 288 [.ptr cd 0,.int .i64 (os.length:Int)] (gl cd ps hZ us gk mb fb) (fun o K=>o = .ret (.cg [])∧∃ CI,K=gl cd ps hZ us gk mb CI∧qi CI (os++[zW os l os.length])):=by
 have an:=bC;have xH:=TS cd ps hZ us gk mb fb os du zE os.length l aB qd oy;unfold zW;refine bz.bn aj Tryz.func288 C C fun s I=>?_
 unfold gl ji at I;refine ck ?_;refine ae.cond C (fun h=>?_) (fun h=>?_)
 ·have bo:os.length=0:=by have:=ah1 h;omega
  rw [f9 bo];refine cm I ?_;intro I;refine aa.mm aj I C C (.inl C) C C C C C C aV C (tV _ _ _) (fun I=>?_);refine dT ?_;have aA:=du.put (v := .ay 1 [.int .i64 0] .clip) 0 [] aR.aZ;rw [bo] at aA;exact Fin.bu (K:=gl cd ps hZ us gk mb (rn fb 0 (.ay 1 [.int .i64 0] .clip))) I C aM (by simp only [gl,ji];exact a7) ⟨rfl,_,rfl,aA⟩
 have bo:os.length≠0:=by have:=of_decide_eq_false h;omega
 rw [f0 bo];cases CJ:qj os l with
 | none=>
  rw [CJ] at xH;unfold tO dv gl ji at xH;refine ej ?_;refine aa.bZ rfl rfl rfl rfl rfl xH I (aH.all _) ?_ (fun _ _ ⟨h,_⟩ _=>by cases h);rintro _ _ ⟨⟨⟩,rfl⟩ I;rw [d8] at I ⊢;refine dT ?_;exact Fin.bu (K:=gl cd ps hZ us gk mb fb) I C aM (by simp only [gl,ji];exact a7) ⟨rfl,_,rfl,du.su⟩
 | some all=>
  rw [CJ] at xH;have hm:=TP 4 21 ag all (Lf all CJ);unfold tO dv gl ji at xH;unfold dv at hm;simp only;refine ej ?_;refine aa.bZ rfl rfl rfl rfl rfl xH I (aH.all _) ?_ (fun _ _ ⟨h,_⟩ _=>by cases h);rintro _ _ ⟨⟨⟩,rfl⟩ I;rw [d8] at I ⊢;cases vJ:(merged all).2 with
  | false=>
   rw [vJ] at hm;simp only [Bool.false_eq_true,af5];refine cD ?_;exact Fin.bu (K:=gl cd ps hZ us gk mb fb) I C aM (by simp only [gl,ji];exact a7) ⟨rfl,_,rfl,du.su⟩
  | true=>
   rw [vJ] at hm;simp only [ae2];have hx:=FH (total all+1) all [];have xx:=Cz (Lf all CJ);have FP:(merged all).1.length≤84:=by
    have:(merged all).1.length≤0+total all:=hx;omega
   generalize (merged all).1=xI at hm FP ⊢;unfold bk at hm;refine di ?_;refine ae.sK I 3 1 1 fun I=>?_
   refine ae.nu (cQ [(cd,_)]) aj mixed C (bh.run (cQ.one (bl.get aV I)) C ?_);refine bh.mo 3 aj (cQ.one (bl.get aV I)) C C C C C C C C (fun _ h=>cQ.fst h) b1 ?_;refine bh.run (cQ.one (bl.get aV I)) C ?_;refine bh.m1 8 aj I rfl rfl rfl rfl rfl rfl rfl rfl rfl ef rfl rfl rfl rfl (.inr rfl) rfl (fun y ax=>by obtain ⟨z,-,rfl⟩:=ad2.1 ax;rfl) C .here C (n':=xI.length+1) cO cO cO (fun lX I => .inl (cQ.one (bl.get aV I))) (fun lX I=>?_);refine bh.run (cQ.one (bl.get aV I)) C ?_;refine bh.gq 10 aj I C C C C C C C C C ef C C C C C C C C .here bc kX ag (fun tN I => .inl (cQ.one (bl.get aV I))) (fun tN I=>?_);refine bh.run (cQ.one (bl.get aV I)) C ?_;refine bh.mm 11 aj I C C C C (.inl C) C C C C C C aV C (tV _ _ _) (fun _ => .inr C) (fun I=>?_);refine ba.done C ?_;skip;refine Fin.bu (K:=gl cd ps hZ us gk mb (rn fb (os.length:Int) (.ay 1 ([af.int .i64 (os.length:Int)]++xI.map bb++[af.int .i64 0]) tN))) I C aM (by simp only [gl,ji];exact a7) ⟨rfl,_,rfl,du.put _ _ ?_⟩;have:((os.length:Int)::(xI++[0])).map bb=[af.int .i64 (os.length:Int)]++xI.map bb++[af.int .i64 0]:=by simp [bb]
   rw [show xI.append [0]=xI++[0] from rfl,this];exact aR.aZ
def po (g:List (List Int)):List (List Int):=[[],[],[]]++g
theorem Lg {g:List (List Int)} {c:Nat} (h:c<3+g.length):(po g)[c]? = some (parents g c):=by
 unfold po parents;by_cases aF:c<3
 ·rw [f9 aF,ad3 (by simpa using aF)]
  rcases c with _|_|_|c
  ·rfl
  ·rfl
  ·rfl
  ·omega
 ·rw [f0 aF,ad6 cO,d5]
  simp only [i7,ae1];rw [f8 ag];rfl
theorem TV (g:List (List Int)) (os:List (List Int)) (c:Nat) (aF:c≠0):zW os (parents g c) c=order g os c:=by
 unfold zW order qj lists;rw [f0 aF];cases iB os (parents g c)<;>rfl
theorem zX (g:List (List Int)):∀ (n k:Nat),k≤n→(fo g n).take (k+1)=fo g k
  | 0,k,h=>by
    have:k=0:=by omega
    subst this;rfl
  | n+1,k,h=>by
    by_cases e:k=n+1
    · subst e
      rw [ae8 (by rw [sE];exact i0 _)]
    · rw [fo,List.take_append_of_le_length (by rw [sE];omega)]
      exact zX g n k ag
theorem TW (g:List (List Int)) {j:Nat} (aO:j<3+g.length):(fo g (2+g.length)).take (j+1)=(fo g (2+g.length)).take j++[zW ((fo g (2+g.length)).take j) (parents g j) j]:=by
 cases j with
 | zero=>rw [zX g _ 0 ag,aj8];rfl
 | succ k=>
  rw [zX g _ (k+1) ag,zX g _ k ag,TV g _ _ ag,fo]
theorem TX {g:List (List Int)} (au:rh g) {j:Nat} (aO:j<3+g.length):(∀ l∈(fo g (2+g.length)).take j,l.length<1000)∧∀ all,qj ((fo g (2+g.length)).take j) (parents g j)=some all→qe 4 21 all:=by
 have jI:=au.len;have ah:=zG au (2+g.length) ag;refine ⟨fun l aB=>by have:=ah.len l (am5 aB);omega,fun all h=>?_⟩;cases j with
 | zero=>
  have:parents g 0=[]:=rfl;rw [this] at h;have:qj ((fo g (2+g.length)).take 0) []=some [[]]:=rfl;rw [this] at h;cases h;exact ⟨by simp,fun l aB=>by rw [t7] at aB;subst aB;exact ⟨by simp,fun c aF=>by cases aF⟩⟩
 | succ k=>
  rw [zX g _ k ag] at h;exact FO au (zG au k ag) (c:=k+1) h
theorem TY (g:List (List Int)) (au:lU g=true) (eb:List Int) (cu:eb.length<bt) (mQ:∀ c∈eb,0≤c∧c<3+(g.length:Int)) :
  bz d0 275 [dv g,.ay 1 (eb.map bb) .aZ] [] (fun o K=>∃ cd hZ us gk mb fb,o = .ret (.cg [.ptr cd 0,.bool true])∧K=gl cd (po g) hZ us gk mb fb∧qi fb (fo g (2+g.length))):=by
 have an:=bC;have lO:=zD au;have jI:=lO.len;have TZ:=Kv g ag;rw [au] at TZ;refine bz.bn aj Tryz.func275 C C fun s I=>?_
 unfold dv at *;have eg:aa' .i64 (3+((g.map bk).length:Int))=3+(g.length:Int):=by rw [f5,er ag ag]
 refine di ?_;refine ae.cl [0,4,5,18,19] C I (σ:=Nat) (fun j=>[(20,.int .i64 (j:Int))]) (fun _=>[]) (fun j=>j≤eb.length) (fun j=>eb.length-j) 0 (g9 _) (cI C) a7 ?_;rintro j aO I;refine hQ ?_;refine ae.cond C (fun az=>?_) (fun a'=>?_)
 ·have az:j<eb.length:=by simpa using az
  obtain ⟨c,ax,da⟩:=cf (f:=bb) az;obtain ⟨cP,c9⟩:=mQ c (d6 ax);unfold bb at da;refine ej ?_;refine aa.dc 26 C (H1 ag) ?_;refine ga ?_;refine ae.cond C (fun h=>by rw [eg] at h;simp at h;omega) (fun _=>?_);refine di ?_;exact bF.mk (j+1) I az cC a7 (by show eb.length-(j+1)<eb.length-j;omega)
 clear aO a';refine di ?_;refine aa.FY aj I 3 (3+g.length) C C C C C C C C C C C (ac5 (fun z=>some (af.int .i64 z)) (eg.trans ag)) ag (by show _*24≤_;omega) ag (fun ab9 I=>?_);skip;refine aa.q1 I C C C C (fun mb I=>?_)
 repeat (first|(refine q4 ?_)|refine aa.jE I C C C C C C (fun b I=>?_)|(refine E7 I ?_;clear I;intro I))
 refine aa.m1 aj I rfl rfl rfl rfl rfl rfl rfl ef rfl rfl rfl rfl (.inr rfl) rfl (fun y ax=>by obtain ⟨z,-,rfl⟩:=ad2.1 ax;rfl) C aV C (n':=3+g.length) bc cO cO (fun hZ I=>?_);refine aa.mZ 47 (.ay 1 ((po g).map bk) hZ) C (aR.zH (.cons aR.empty (.cons aR.empty (.cons aR.empty (cM.refl _))))) ?_;refine cm I ?_;intro I;have ig:(po g).length=3+g.length:=by unfold po;simp;omega
 refine ae.vt I b (ji (po g) hZ [] .nil mb) aV (.cons aM (.cons (aR.nil hh) (cM.refl _))) (fun I=>?_);refine ae.ik I 346 1 0 fun I=>?_
 refine ae.cl [8,53,54] C I (σ:=Nat×List Nat×bN) (fun q=>[(55,.int .i64 (q.1:Int))]) (fun q=>gl b (po g) hZ q.2.1 q.2.2 mb []) (fun q=>q.1≤3+g.length∧q.2.1.length=q.1∧∀ m∈q.2.1,m<2^64) (fun q=>3+g.length-q.1) (0,[],.nil) ⟨g9 _,rfl,by simp⟩ (cI C) (by rw [← ig] at I ⊢;exact (by simp only [gl,ji];exact a7)) ?_;rintro ⟨j,us,gk⟩ ⟨aO,j2,vQ⟩ I;simp only [gl,ji] at aO j2 vQ I ⊢;refine hQ ?_;refine ae.cond C (fun az=>?_) (fun a'=>?_)
 ·have az:j<3+g.length:=by rw [f5,ig] at az;simp at az;omega
  have ax:=Lg az;have da:((po g).map bk)[j]? = some (.ay 1 ((parents g j).map bb) .aZ):=by rw [ad7,ax];rfl
  obtain ⟨ri,ox⟩:=lO.parents j;generalize parents g j=l at ax da ri ox;have U:=Ld 0 j dE ag;have ad:=Ld (0|||2^j) 0 (ag' dE (ag6 ag ag)) ag;unfold nK at U ad
  repeat (first|(refine vx I ?_;clear I;intro I)|refine aa.dO aj I rfl rfl rfl rfl rfl rfl rfl (fun cy I=>?_)|(refine oi ?_))
  refine ae.cl [8,9,11,53,54,55,64,65] C I (σ:=Nat×Nat) (fun q=>[(66,.int .i64 (q.1:Int))]) (fun q=>(.own cy,.box 346 [.int .u64 (q.2:Int)])::gl b (po g) hZ us gk mb []) (fun q=>q.1≤l.length∧q.2<2^64) (fun q=>l.length-q.1) (0,0|||2^j|||2^0) ⟨g9 _,ag' (ag' dE (ag6 ag ag)) dE⟩ (cI C) (by simp only [gl,ji];exact a7) ?_;rintro ⟨k,m⟩ ⟨aD,hm⟩ I;simp only [gl,ji] at aD hm I ⊢;refine hQ ?_;refine ae.cond C (fun cU=>?_) (fun et=>?_)
  ·have cU:k<l.length:=by simpa using cU
   obtain ⟨p,aF,my⟩:=cf (f:=bb) cU;have aa7:=ox p (d6 aF);obtain ⟨q,rfl⟩:∃ q:Nat,p=q:=⟨p.toNat,by omega⟩;obtain ⟨u,hu,T0⟩:=cf (f:=nK) (l:=us) (j:=q) ag;have yO:=TM m u hm (vQ u (d6 hu));unfold bb at my;unfold nK at yO T0;refine sv I ?_;intro I;exact bF.mk (k+1,m|||u) I ⟨cU,ag' hm (vQ u (d6 hu))⟩ cC (by simp only [gl,ji];exact a7) (by show l.length-(k+1)<l.length-k;omega)
  ·refine sw ?_
   refine ae.nu (cQ [(b,_),(cy,_)]) aj mixed C (bh.run (cQ.two (bl.get aV I) (bl.get aV I)) C ?_);refine bh.mo 4 aj (cQ.two (bl.get aV I) (bl.get aV I)) C C C C C C C C (fun _ h=>cQ.fst h) b1 ?_;refine bh.mo 5 aj (cQ.two (bl.get aV I) (bl.get aV I)) C C C C C C C C (fun _ h=>cQ.snd h) b1 ?_;refine bh.run (cQ.two (bl.get aV I) (bl.get aV I)) C ?_;refine bh.gq 7 aj I C C C C C C C C C ef C C C C C C C C aV bc kX ag (fun tN I => .inl (cQ.two (bl.get aV I) (bl.get aV I))) (fun T1 I=>?_);refine bh.run (cQ.two (bl.get aV I) (bl.get aV I)) C ?_;refine bh.cN 10 aj I C C C C C C C C C C C aV b1 (fun _ => .inr C) (fun I=>?_);refine ba.done C ?_;refine di ?_;have EL:∀ x∈us++[m],x<2^64:=fun x ab=>by
    rcases ac7.1 ab with ab|ab
    ·exact vQ x ab
    ·rw [t7] at ab;subst ab;exact hm
   have hx:(us++[m]).length=us.length+1:=by simp
   have T2:(us++[m]).map nK=us.map nK++[.agg [.int .u64 (m:Int)]]:=by simp [nK]
   exact bF.mk (j+1,us++[m],T1) I ⟨az,by rw [hx,j2],EL⟩ cC (by simp only [gl,ji,hx,T2];exact a7) (by show 3+g.length-(j+1)<3+g.length-j;omega)
 have a':j=3+g.length:=by rw [f5,ig] at a';simp at a';omega
 subst a';refine cm I ?_;intro I;refine ae.cl [8,94,95] C I (σ:=Nat×jS) (fun q=>[(96,.int .i64 (q.1:Int))]) (fun q=>gl b (po g) hZ us gk mb q.2) (fun q=>q.1≤3+g.length∧qi q.2 ((fo g (2+g.length)).take q.1)) (fun q=>3+g.length-q.1) (0,[]) ⟨g9 _,fun c=>by rw [aj8];rfl⟩ (cI C) (by simp only [gl,ji];exact a7) ?_;rintro ⟨j,fb⟩ ⟨aO,du⟩ I;simp only [gl,ji] at aO du I ⊢;refine hQ ?_;refine ae.cond C (fun az=>?_) (fun a'=>?_)
 ·have az:j<3+g.length:=by rw [f5,ig] at az;simp at az;omega
  obtain ⟨sc,pR⟩:=TX lO az;obtain ⟨ri,ox⟩:=lO.parents j;have xx:((fo g (2+g.length)).take j).length=j:=by rw [ac9,sE];omega
  have xJ:=TU b (po g) hZ us gk mb fb _ du sc (parents g j) (by rw [xx];exact Lg az) ri (fun p aE=>by have:=ox p aE;omega) pR ag;rw [xx,← TW g az] at xJ;refine ej ?_;refine aa.bZ C C C C C xJ I (by simp only [gl,ji];exact a7) ?_ (fun _ _ ⟨h,_⟩ _=>by cases h);rintro _ _ ⟨⟨⟩,CI,rfl,T3⟩ I;rw [d8] at I ⊢;refine di ?_;exact bF.mk (j+1,CI) I ⟨az,T3⟩ cC (aH.ez _) (by show 3+g.length-(j+1)<3+g.length-j;omega)
 have a':j=3+g.length:=by rw [f5,ig] at a';simp at a';omega
 subst a';rw [ae8 (by rw [sE];omega)] at du;refine di ?_;exact Fin.bu I C aM (aH.ez _) ⟨b,hZ,us,gk,mb,fb,rfl,rfl,du⟩
theorem T4 (g:List (List Int)) (au:g.length<bt):aU d0 254 [dv g] (.int .i64 (if lU g then 0 else 2)):=by
 have an:=bC;refine aU.bn aj Tryz.func254 C C fun s I=>?_
 have U:=Kv g au;unfold dv at *
 repeat' (first|(with_reducible first|apply ae.seq|apply b0|apply fW|apply ae.ret|apply ae.skip)|refine c1 C ?_|refine ae.cA ?_|refine aa.nil ?_|refine cx C ?_|refine aa.dX C C C C C cq ?_|refine ae.cond C (fun h=>?_) (fun h=>?_))
 all_goals exact Fin.cL I C (aR.of_eq sN)
def Lh (l:List Int):af:=if l.isEmpty then .cg [.ay 0 [] .nil,.int .i64 7] else .cg [bk l,.int .i64 0]
theorem T5 (g:List (List Int)) (au:lU g=true) (c:Nat) (aF:c<3+g.length):aU d0 255 [dv g,.int .i64 (c:Int)] (Lh ((fo g (2+g.length)).getD c [])):=by
 have an:=bC;refine aU.bn aj Tryz.func255 C C fun s I=>?_
 have U:=TY g au [(c:Int)] cO (by intro x ab;rw [t7] at ab;subst ab;omega);have lO:=zD au;have jI:=lO.len;have ah:=zG lO (2+g.length) ag;unfold dv at *;have U:=bz.args (show cM [.ay 1 (g.map bk) .aZ,.ay 1 [.int .i64 (c:Int)] .clip] [.ay 1 (g.map bk) .aZ,.ay 1 ([(c:Int)].map bb) .aZ] from .cons aM (.one aR.aZ)) U;refine dz ?_;refine aa.bZ rfl rfl rfl rfl rfl U I .nil ?_ (fun _ _ ⟨_,_,_,_,_,_,h,_⟩ _=>by cases h);rintro _ _ ⟨cd,hZ,us,gk,mb,fb,⟨⟩,rfl,du⟩ I;rw [d8] at I ⊢;have zY:=du c;have gh:((fo g (2+g.length)).getD c []).length<bt:=by
  rw [d5];cases h:(fo g (2+g.length))[c]? with
  | none=>simp;omega
  | some x=>have:=ah.len x (d6 h);show x.length<bt;omega
 generalize (fo g (2+g.length)).getD c []=l at zY gh;unfold gl ji at I ⊢;cases l with
 | nil=>
  have zY:nJ fb (c:Int)=none:=zY;refine ha I ?_;intro I;refine aa.jc aj I C C C C C C C C C C aV C (by rw [tU,zY]) C ?_;refine dT ?_;exact bA I
 | cons x r=>
  obtain ⟨v,pn,zV⟩:∃ v,nJ fb (c:Int)=some v∧aR v (.ay 1 ((x::r).map bb) .aZ):=zY;have cu:=zT (x::r) .aZ gh;unfold bk at cu;refine ha I ?_;intro I;refine aa.jc aj I C C C C C C C C C C aV C (by rw [tU,pn]) C ?_;refine aa.mZ 22 _ C zV ?_;refine cm I ?_;intro I;refine aa.jc aj I C C C C C C C C C C aV C (by rw [tU,pn]) C ?_;refine aa.mZ 30 _ C zV ?_;refine di ?_;exact bA I
theorem zZ {w:bw} {up:List Nat} {c m:Nat} (h:up[c]? = some m):(pk w up)[2+c]? = some (.int .u64 (m:Int)):=by
 unfold pk fu;rw [ad6 bc];simp [h]
theorem Li (w:bw) (up:List Nat) (c bx m o:Nat) (aF:c<63) (hm:up[c]? = some m) (hx:m<2^64) (ao:w.owner[bx]? = some (o:Int)) (ah:o<64):aU d0 209 [e1 w up,.int .i64 (c:Int),.int .i64 (bx:Int)] (.bool (m.testBit o)):=by
 have an:=bC;refine aU.bn aj Tryz.func209 C C fun s I=>?_
 have U:=xG m o hx ah;have ad:(w.owner.map bb)[bx]? = some (.int .i64 (o:Int)):=by simp [ao,bb]
 have al:=zZ (w:=w) hm;unfold e1;unfold pk fu bk at al ⊢;refine cD ?_;refine aL.lp aj c C C C C C C C C C C aF ?_;refine aL.zK aj C C C C C C C (by simpa using al) ?_;refine di ?_;exact bA I
theorem Gd (c:Nat) (aF:c<64):aU d0 197 [.int .u64 1,.int .i64 (c:Int)] (.int .u64 ((1|||2^c:Nat):Int)):=zU 1 c dE aF
def m5 (w:bw) (u:List Nat):List af:=pk w (pad u)
theorem Lj {w:bw} {u:List Nat} (h:u.length<63) (v:Nat):eO (2+u.length*1) [.int .u64 (v:Int)] (m5 w u)=m5 w (u++[v]):=by
 rw [rj];unfold m5 pk;rw [ai' _ _ (by simp [fu]),← SE h v,List.map_set];congr 2;simp [fu]
theorem Lk {w:bw} {u:List Nat} (h:u.length≤63):(m5 w u).length=65:=by
 unfold m5 pk;rw [d9,f5,SD h];rfl
theorem T6 {w:bw} {u:List Nat} {c m:Nat} (h:u[c]? = some m):(m5 w u)[2+c*1]? = some (.int .u64 (m:Int)):=by
 rw [ah2];exact zZ (xo h)
theorem T7 (j:Nat) (aO:j<3):[1,3,5].take (j+1)=[1,3,5].take j++[1|||2^j]:=by
 rcases j with _|_|_|j
 ·rfl
 ·rfl
 ·rfl
 ·omega
theorem T8 (w:bw) (hw:fQ w):aU d0 165 [fw w] (.cg [e1 w (pad (eI w.ps)),.bool true]):=by
 have an:=bC;have qk:=hw.j9;have gh:=hw.bj;refine aU.bn aj Tryz.func165 C C fun s I=>?_
 unfold fw fu dv bk;refine dz ?_;refine aa.dc 15 C cO ?_;refine ga ?_;refine ae.cond C (fun h=>?_) (fun _=>?_)
 ·simp at h;omega
 refine ae.skip ?_
 repeat (first|(refine B' ?_)|refine aa.jE I C C C C C C (fun b I=>?_)|(refine Ca ?_))
 refine ae.cl [1,4] C I (σ:=Nat) (fun j=>[(24,.int .i64 (j:Int))]) (fun j=>[(.own b,.box 234 (m5 w ([1,3,5].take j)))]) (fun j=>j≤3) (fun j=>3-j) 0 (g9 _) (cI C) a7 ?_;rintro j aO I;refine ck ?_;refine ae.cond C (fun az=>?_) (fun a'=>?_)
 ·have az:j<3:=by have:=ah1 az;omega
  have U:=Gd j ag;have e:eO (2+j*1) [.int .u64 ((1|||2^j:Nat):Int)] (m5 w ([1,3,5].take j))=m5 w ([1,3,5].take (j+1)):=by
   have aB:([1,3,5].take j).length=j:=by simp;omega
   have:=Lj (w:=w) (u:=[1,3,5].take j) ag (1|||2^j);rw [aB] at this;rw [this,T7 j az]
  have hlen:(m5 w ([1,3,5].take j)).length=65:=Lk cO;refine cD ?_;refine aL.arr aj j C C C C C C C C C C ag ?_;refine aL.lY aj I _ C C C C C C C C C C aV (by rw [hlen];show 2+j*1+1≤65;omega) e (fun I=>?_);refine gg ?_;exact bF.mk (j+1) I az cC a7 (by show 3-(j+1)<3-j;omega)
 have a':j=3:=by have:=of_decide_eq_false a';omega
 subst a';refine bG ?_;refine ae.cl [1,4,36,37] C I (σ:=Nat) (fun j=>[(38,.int .i64 (j:Int))]) (fun j=>[(.own b,.box 234 (m5 w (eI (w.ps.take j))))]) (fun j=>j≤w.ps.length) (fun j=>w.ps.length-j) 0 (g9 _) (cI C) a7 ?_;rintro j aO I;refine ck ?_;refine ae.cond C (fun az=>?_) (fun a'=>?_);rotate_left
 ·have a':j=w.ps.length:=by simp at a';omega
  subst a';rw [ac'] at I ⊢;have jT:w.owner.all (fun c=>decide (c≥3)&&decide (c<3+(w.ps.length:Int)))=true:=by
   rw [ae'];intro o ah;have:=hw.own o ah;simp;omega
  have pq:=K9 199 [e1 w (pad (eI w.ps))] [] _ w.owner ag (fun x _=>TJ w (pad (eI w.ps)) x qk);rw [jT] at pq;refine ae.mn I 4 b C aV (fun I=>?_);unfold e1 at pq ⊢;refine di ?_;exact bA I
 have az:j<w.ps.length:=by simpa using az
 obtain ⟨l,ax,da⟩:=cf (f:=bk) az;have jI:=Cm hw.nB ax;have U:=Gd (3+j) ag;have j2:(eI (w.ps.take j)).length=3+j:=by rw [sG,ac9];omega
 have Ge:∀ m∈eI (w.ps.take j),m<2^64:=xn uJ;have iP:aa' .i64 (3+(j:Int))=((3+j:Nat):Int):=by rw [er ag ag];omega
 have qd:l.length<100:=by have:=hw.short l (d6 ax);omega
 generalize pr:eI (w.ps.take j)=abY at I j2 Ge;unfold bk at da;have U:aU d0 197 [.int .u64 1,.int .i64 (aa' .i64 (3+(j:Int)))] (.int .u64 ((1|||2^(3+j):Nat):Int)):=by rw [iP];exact U
 refine cD ?_;refine ae.cl [1,4,36,37,38,6,7,46,47] C I (σ:=Nat) (fun k=>[(48,.int .i64 (k:Int)),(8,.int .u64 (((l.take k).foldl (fun s p=>s|||abY.getD p.toNat 0) (1|||2^(3+j)):Nat):Int))]) (fun k=>[(.own b,.box 234 (m5 w abY))]) (fun k=>k≤l.length) (fun k=>l.length-k) 0 (g9 _) (cI C) a7 ?_;rintro k aD I;refine ck ?_;refine ae.cond C (fun cU=>?_) (fun et=>?_);rotate_left
 ·have et:k=l.length:=by simp at et;omega
  subst et;rw [ac'] at ⊢;have e:eO (2+(3+j)*1) [.int .u64 ((q' abY l:Nat):Int)] (m5 w abY)=m5 w (eI (w.ps.take (j+1))):=by
   rw [js ax,Ka,pr,← j2];exact Lj ag _
  have hlen:(m5 w abY).length=65:=Lk ag;unfold q' at e;rw [j2] at e;refine bG ?_;refine aa.arr aj (3+j) C C C C C C C C C iP ag ?_;refine aa.lY aj I _ C C C C C C C C C aV (by rw [hlen];show 2+(3+j)*1+1≤65;omega) e (fun I=>?_);refine hI ?_;exact bF.mk (j+1) I az cC a7 (by show w.ps.length-(j+1)<w.ps.length-j;omega)
 have cU:k<l.length:=by simpa using cU
 obtain ⟨p,aF,my⟩:=cf (f:=bb) cU;obtain ⟨g1,g2,g3⟩:=Cn jI aF;obtain ⟨q,rfl⟩:∃ q:Nat,p=q:=⟨p.toNat,by omega⟩;have hY:=vH (l.take k) q (by have:=ai1 k l;omega);have tW:(l.take k).contains (q:Int)=false:=by simpa using g3
 rw [tW] at hY;unfold bk at hY;rw [List.map_take] at hY;unfold bb at my hY;obtain ⟨m,hm⟩:∃ m,abY[q]? = some m:=⟨abY[q]' ag,f8 _⟩;refine ej ?_;refine aa.dc 55 C (H1 ag) ?_;refine dD ?_;refine aa.dc 61 C (by rw [iP];exact H1 ag) ?_;refine dD ?_;refine aa.slice aj 0 k C C C C C C C C (.inr C) (.inl ⟨rfl,rfl⟩) (.inr ⟨_,_,rfl,rfl⟩) (.inl ⟨rfl,rfl⟩) (g9 _) (by simpa using aD) ?_;rw [aj'];refine di ?_;refine aa.arr aj q C C C C C C C C C C ag ?_;refine aa.k2 aj I C C C C C C aV C (T6 hm) ?_;refine aa.bits (((l.take k).foldl (fun s p=>s|||abY.getD p.toNat 0) (1|||2^(3+j))|||m:Nat):Int) C C C C C C (vC (Ft Ge _ _ (Fs dE (ag6 ag ag))) (Ge m (d6 hm))) ?_;refine hI ?_;refine bF.mk (k+1) I cU (by repeat (first|exact trivial|refine ⟨⟨_,rfl,aM⟩,?_⟩|refine ⟨⟨_,rfl,aR.of_eq (by (first|rw [kV ag]|(rw [js aF,an'];simp [hm])))⟩,?_⟩)) a7 (by show l.length-(k+1)<l.length-k;omega)
theorem T9 (fv:af) (K aN:a6) (q:Bool) (x:aq) (h:dh d0 fv [x.cb] K (fun o K=>o = .ret (.bool q)∧K=aN)):dh d0 (.func 234 [] [.bs [fv] 0]) [x.cb] K (fun o K=>o = .ret (.bool (!q))∧K=aN):=by
 refine dh.fa (first:=[]) (cap:=[.bs [fv] 0]) ?_;refine bz.bn aj Tryz.func234 C C fun s I=>?_
 rw [aq.cE] at h ⊢;refine dz ?_;refine aa.gr rfl rfl rfl rfl rfl rfl h I (aH.all _) ?_ (fun _ _ ⟨h,_⟩ _=>by cases h);rintro _ _ ⟨⟨⟩,rfl⟩ I;rw [d8] at I ⊢;refine dY ?_;exact Fin.bu I C aM (aH.all _) ⟨rfl,rfl⟩
theorem T' (f:FuncId) (h8 hf:List af) (xs:List aq) (T:Nat→a6) (b9:Nat→Bool) (aB:xs.length<bt) (h:∀ j x,xs[j]? = some x→(∀ i,i<j→b9 i=true)→dh d0 (.func f h8 hf) [x.cb] (T j) (fun o K=>o = .ret (.bool (b9 j))∧K=T (j+1))) :
  bz d0 200 [.ay 6 (xs.map aq.cb) .aZ,.func f h8 hf] (T 0)
   (fun o K=>(o = .ret (.bool true)∧K=T xs.length∧∀ i,i<xs.length→b9 i=true)∨∃ j,j<xs.length∧b9 j=false∧(∀ i,i<j→b9 i=true)∧o = .ret (.bool false)∧K=T (j+1)):=by
 refine bz.bn aj Tryz.func200 C C fun s I=>?_
 have aF:=FR (.func 234 [] [.bs [.func f h8 hf] 0]) xs T (fun j => !b9 j) aB (fun j x ab aS=>T9 (.func f h8 hf) (T j) (T (j+1)) (b9 j) x (h j x ab (fun i eF=>by simpa using aS i eF)));refine dz ?_;refine aa.bZ rfl rfl rfl rfl rfl aF I (aH.all _) ?_ (fun _ _ h _=>by rcases h with ⟨h,_⟩|⟨_,_,_,_,h,_⟩<;>cases h);rintro _ _ (⟨⟨⟩,rfl,U⟩|⟨j,U,ad,al,⟨⟩,rfl⟩) I
 all_goals rw [d8] at I ⊢
 ·refine dY ?_
  exact Fin.bu I C aM (aH.all _) (.inl ⟨rfl,rfl,fun i aS=>by simpa using U i aS⟩)
 ·refine dY ?_
  exact Fin.bu I C aM (aH.all _) (.inr ⟨j,U,by simpa using ad,fun i aS=>by simpa using al i aS,rfl,rfl⟩)
def ly (kC:Nat) (k:Int):a6:=[(.own kC,.box 3 [.int .i64 k])]
theorem Ua (w:bw) (d:Nat) (k:Int) (f:aq):e0 w d k f=if decide (k-1<0)||decide (d=0) then (false,k-1) else if hi w f then gQ w (d-1) (k-1) f.kids else (false,k-1):=by
 cases f;rw [e0];rfl
def kD (w:bw) (d:Nat) (k:Int) (ks:List aq):Nat→Int
  | 0=>k
  | j+1=>match ks[j]? with
    | some x=>(e0 w d (kD w d k ks j) x).2
    | none=>kD w d k ks j
theorem vR (w:bw) (d:Nat) (k:Int) (x:aq) (r:List aq):∀ j,kD w d k (x::r) (j+1)=kD w d (e0 w d k x).2 r j
  | 0=>by simp [kD]
  | j+1=>by
    rw [kD,vR w d k x r j,List.getElem?_cons_succ];rfl
theorem Ll (w:bw) (d:Nat):∀ (ks:List aq) (k:Int),
    (∀ j x,ks[j]? = some x→(e0 w d (kD w d k ks j) x).1=true)→gQ w d k ks=(true,kD w d k ks ks.length)
  | [],_,_=>by rw [gQ];rfl
  | x::r,k,h=>by
    have bo:(e0 w d k x).1=true:=h 0 x C;rw [gQ,f9 bo,Ll w d r _ (fun j y aO=>by rw [← vR];exact h (j+1) y (by simpa using aO)),i7,vR]
theorem Lm (w:bw) (d:Nat):∀ (ks:List aq) (k:Int) (j:Nat) (x:aq),ks[j]? = some x→(∀ (i:Nat) y,i<j→ks[i]? = some y→(e0 w d (kD w d k ks i) y).1=true)→(e0 w d (kD w d k ks j) x).1=false →
    gQ w d k ks=(false,kD w d k ks (j+1))
  | [],_,_,_,h,_,_=>by simp at h
  | y::r,k,0,x,h,_,ab=>by
    obtain rfl:y=x:=by simpa using h
    have ct:(e0 w d k y).1=false:=ab;rw [gQ,f0 (by rw [ct];simp),vR];rfl
  | y::r,k,j+1,x,h,aS,ab=>by
    have bo:(e0 w d k y).1=true:=aS 0 y (Nat.succ_pos _) C;rw [gQ,f9 bo,vR];rw [vR] at ab;exact Lm w d r _ j x gT (fun i z eF bP=>by rw [← vR];exact aS (i+1) z ag (by simpa using bP)) ab
mutual
theorem Ln:∀ (x:aq) (w:bw) (d:Nat) (k:Int),(e0 w d k x).1=true→0≤(e0 w d k x).2∧(e0 w d k x).2≤k
  | .mk o a p c n ks,w,d,k,h=>by
    rw [e0] at h ⊢;split at h
    · cases h
    · rename_i aF
      rw [f0 aF];simp only [ag9,g8,not_or] at aF;split at h
      · rename_i aA
        rw [f9 aA];have:=Lo ks w (d-1) (k-1) h ag;omega
      · cases h
theorem Lo:∀ (ks:List aq) (w:bw) (d:Nat) (k:Int),(gQ w d k ks).1=true→0≤k→0≤(gQ w d k ks).2∧(gQ w d k ks).2≤k
  | [],w,d,k,_,bo=>by rw [gQ];exact ⟨bo,aj4 _⟩
  | x::r,w,d,k,h,bo=>by
    rw [gQ] at h ⊢;split at h
    · rename_i ab
      rw [f9 ab];have U:=Ln x w d k ab;have ad:=Lo r w d _ h U.1;omega
    · cases h
end
theorem Lp {w:bw} {d:Nat} {ks:List aq} {k:Int} (bo:0≤k):∀ (j:Nat),(∀ (i:Nat) y,i<j→ks[i]? = some y→(e0 w d (kD w d k ks i) y).1=true)→0≤kD w d k ks j∧kD w d k ks j≤k
  | 0,_=>⟨bo,aj4 _⟩
  | j+1,h=>by
    have U:=Lp bo j fun i y aS ax=>h i y ag ax
    rw [kD];cases ab:ks[j]? with
    | none=>exact U
    | some x=>
      have ad:=Ln x w d _ (h j x (ak' _) ab);simp only;omega
theorem Ub (w:bw) (up:List Nat) (kC:Nat) (y:aq) (d:Nat) (k:Int) (av:d≤12) (mL:0<d)
  (h:bz d0 202 [e1 w up,y.cb,.ptr kC 0,.int .i64 ((d-1:Nat):Int)] (ly kC k) (fun o K=>o = .ret (.bool (e0 w (d-1) k y).1)∧K=ly kC (e0 w (d-1) k y).2)) :
  dh d0 (.func 238 [] [.bs [e1 w up] 0,.bs [.ptr kC 0] 0,.bs [.int .i64 (d:Int)] 0]) [y.cb] (ly kC k) (fun o K=>o = .ret (.bool (e0 w (d-1) k y).1)∧K=ly kC (e0 w (d-1) k y).2):=by
 refine dh.fa (first:=[]) (cap:=[.bs [e1 w up] 0,.bs [.ptr kC 0] 0,.bs [.int .i64 (d:Int)] 0]) ?_;refine bz.bn aj Tryz.func238 C C fun s I=>?_
 have hw:aa' .i64 ((d:Int)-1)=((d-1:Nat):Int):=by rw [er ag ag];omega
 rw [aq.cE] at h ⊢;rw [← hw] at h;unfold e1 at h ⊢;refine dz ?_;refine aa.bZ rfl rfl rfl rfl rfl h I (aH.all _) ?_ (fun _ _ ⟨h,_⟩ _=>by cases h);rintro _ _ ⟨⟨⟩,rfl⟩ I;rw [d8] at I ⊢;refine dY ?_;exact Fin.bu I C aM (aH.all _) ⟨rfl,rfl⟩
theorem Uc (w:bw) (up:List Nat) (hw:w.ps.length≤60) (kC:Nat):∀ (n:Nat) (f:aq) (d:Nat) (k:Int),f.size≤n→n<bt→d≤12→0≤k→k≤bt →
    bz d0 202 [e1 w up,f.cb,.ptr kC 0,.int .i64 (d:Int)] (ly kC k) (fun o K=>o = .ret (.bool (e0 w d k f).1)∧K=ly kC (e0 w d k f).2):=by
  have an:=bC;intro n
  induction n with
  | zero=>intro x d k h;have:=x.size_eq;omega
  | succ n aX=>
    intro f d k aA jB av lK ie;have m6:aa' .i64 (k-1)=k-1:=er ag ag;refine bz.bn aj Tryz.func202 C C fun s I=>?_
    have iQ:=f.size_eq;have aF:=Ua w d k f;have U:=TD f.op;have ad:=Gc f;have al:=TK w up f.path ag;have bd:=TG w up f.cls hw;rw [aq.cE] at ad ⊢;unfold e1 bk at al;unfold e1 at bd ⊢;unfold ly at I ⊢;refine ha I ?_;intro I;rw [m6] at I ⊢
    repeat' (first|(with_reducible first|apply ae.seq|apply b0|apply fW|apply fz|apply hr|apply ae.ret|apply ae.skip|apply ae.block)|refine c1 C ?_|refine ae.cA ?_|refine aa.nil ?_|refine ae.fL C ?_|refine cx C ?_|refine aa.skip C C C ?_|refine aL.nil ?_|refine aL.step C ?_|refine aa.dX C C C C C cq ?_|refine aL.dX C C C C C cq ?_|(fail_if_success refine aa.same true C ?_);(fail_if_success refine aa.same false C ?_);refine aa.hq C C (fun h=>?_) (fun h=>?_)|(fail_if_success refine aL.same true C ?_);(fail_if_success refine aL.same false C ?_);refine aL.hq C C (fun h=>?_) (fun h=>?_)|refine ae.cond C (fun h=>?_) (fun h=>?_))
    all_goals first
      | (have key:e0 w d k f=(false,k-1):=by
          clear aX I U ad al bd aA iQ m6
          rw [aF]
          simp only [hi,j8,aq.c7] at *
          grind
         exact Fin.bu (K:=ly kC (k-1)) I C aM (by simp only [ly];exact a7) ⟨by rw [key],by rw [key];rfl⟩)
      | (have CK:f.kids=[]:=by
          clear aX I U ad al bd aA iQ m6 aF
          refine ag3 ?_
          simp only [hi,j8,aq.c7,q9,f5] at *
          grind
         have key:e0 w d k f=(hi w f,k-1):=by
          clear aX I U ad al bd aA iQ m6
          rw [aF,CK,gQ]
          grind
         refine Fin.bu (K:=ly kC (k-1)) I C (aR.of_eq (ac5 af.bool ?_)) (by simp only [ly];exact a7) ⟨by rw [key],by rw [key];rfl⟩
         clear aX I U ad al bd aA iQ m6 aF key
         simp only [hi,j8,aq.c7,q9,f5] at *
         grind)
      | skip
    have Ud:hi w f=true:=by
      clear aX I U ad al bd aA iQ m6 aF;simp only [hi,j8,aq.c7,f5] at *;simp at *;grind
    have mL:0<d:=by
      rcases Nat.eq_zero_or_pos d with rfl|h
      · simp_all
      · exact h
    have z1:¬ k-1<0:=by
      clear aX I U ad al bd;grind
    have key:e0 w d k f=gQ w (d-1) (k-1) f.kids:=by
      rw [aF,f0 cO,f9 Ud]
    have hlen:=aq.p9 f.kids
    have CK:=T' 238 [] [.bs [e1 w up] 0,.bs [.ptr kC 0] 0,.bs [.int .i64 (d:Int)] 0] f.kids (fun j=>ly kC (kD w (d-1) (k-1) f.kids j)) (fun j=>match f.kids[j]? with|some x=>(e0 w (d-1) (kD w (d-1) (k-1) f.kids j) x).1|none=>true) ag (fun j x ab aS=>by
      have pt:=Lp (w:=w) (d:=d-1) (ks:=f.kids) (k:=k-1) ag j (fun i y eF ax=>by have:=aS i eF;simp only [ax] at this;simpa using this)
      have hm:=aq.iD (d6 ab)
      have:=Ub w up kC x d (kD w (d-1) (k-1) f.kids j) av mL (aX x (d-1) _ ag ag ag pt.1 ag)
      simp only [kD,ab]
      exact this)
    unfold e1 at CK;skip;refine aa.bZ C C C C C CK I (by simp only [ly,kD];exact a7) ?_ (fun _ _ h _=>by rcases h with ⟨h,_⟩|⟨_,_,_,_,h,_⟩<;>cases h);rintro _ _ (⟨⟨⟩,rfl,g1⟩|⟨j,g1,g2,g3,⟨⟩,rfl⟩) I
    · have:=Ll w (d-1) f.kids (k-1) (fun j x ab=>by have:=g1 j (List.getElem?_eq_some_iff.1 ab).1;simp only [ab] at this;simpa using this)
      rw [key,this];refine dY ?_;exact Fin.bu (K:=ly kC _) I C aM (by simp only [ly,t8,d7];exact a7) ⟨rfl,rfl⟩
    · obtain ⟨x,ab,-⟩:=cf (f:=aq.cb) g1
      simp only [ab] at g2;have:=Lm w (d-1) f.kids (k-1) j x ab (fun i y eF ax=>by have:=g3 i eF;simp only [ax] at this;simpa using this) (by simpa using g2);rw [key,this];refine dY ?_;exact Fin.bu (K:=ly kC _) I C aM (by simp only [ly,t8,d7];exact a7) ⟨rfl,rfl⟩
abbrev z6 (w:bw):List Nat:=pad (eI w.ps)
abbrev fR (w:bw):af:=e1 w (z6 w)
theorem Ue (w:bw) (hw:w.ps.length≤60) (f:aq) (a1:f.size<bt):ee d0 (.func 201 [] [.bs [fR w] 0]) [f.cb] (.bool (il w f)):=by
 have an:=bC;refine ee.fa (first:=[]) (cap:=[.bs [fR w] 0]) ?_;refine aU.bn aj Tryz.func201 C C fun s I=>?_
 rw [aq.cE];unfold fR e1
 repeat (first|(refine RX I ?_;clear I;intro I)|refine aa.dO aj I rfl rfl rfl rfl rfl rfl rfl (fun cy I=>?_))
 have aA:=Uc w (z6 w) hw cy f.size f 12 24 (i0 _) a1 ag ag ag;rw [aq.cE] at aA;unfold e1 at aA;refine aa.bZ C C C C C aA I (by simp only [ly];exact a7) ?_ (fun _ _ ⟨h,_⟩ _=>by cases h);rintro _ _ ⟨⟨⟩,rfl⟩ I;rw [d8] at I ⊢;refine aa.lQ I [] a7 fun I=>?_
 refine dY ?_;exact bA I
theorem Uf (w:bw) (hw:w.ps.length≤60) (l:List aq) (aB:l.length<bt) (a1:∀ f∈l,f.size<bt):aU d0 166 [fR w,.ay 6 (l.map aq.cb) .aZ] (.bool (l.all (il w))):=by
 have an:=bC;refine aU.bn aj Tryz.func166 C C fun s I=>?_
 have U:=Ts 201 [] [.bs [fR w] 0] (il w) l aB (fun x ab=>Ue w hw x (a1 x ab));unfold fR e1 at *;refine cD ?_;exact bA I
theorem Gf (w:bw) (hw:fQ w) (l:List aq) (aB:l.length<bt) (a1:∀ f∈l,f.size<bt):aU d0 122 [fw w,.ay 6 (l.map aq.cb) .aZ] (.cg [fR w,.bool (l.all (il w))]):=by
 have an:=bC;refine aU.bn aj Tryz.func122 C C fun s I=>?_
 have U:=T8 w hw;have ad:=Uf w hw.j9 l aB a1;unfold fw fu dv bk at *;unfold fR e1 at *;refine cD ?_;exact bA I
theorem Ug (w:bw) (hw:fQ w) (f:aq) (a1:f.size<bt):aU d0 229 [fw w,f.cb] (.int .i64 (if il w f then 0 else 2)):=by
 have an:=bC;refine aU.bn aj Tryz.func229 C C fun s I=>?_
 have U:=Gf w hw [f] cO (by intro g au;rw [t7] at au;subst au;exact a1);have ad:=TL (il w f);rw [ac0,ae3,aq.cE] at U;rw [aj6,an3,am8] at U;rw [aq.cE];unfold fw fu dv bk at *;refine cD ?_;exact bA I
theorem Lq (v:Int×Int) (n:Int):aU d0 170 [fK v,.int .i64 n] (.bool (hj n v)):=by
 have an:=bC;refine aU.bn aj Tryz.func170 C C fun s I=>?_
 unfold fK
 repeat' (first|(with_reducible first|apply ae.seq|apply b0|apply fW|apply fz|apply hr|apply ae.ret|apply ae.skip|apply ae.block)|refine c1 C ?_|refine ae.cA ?_|refine aa.nil ?_|refine cx C ?_|refine aa.skip C C C ?_|(fail_if_success refine aa.same true C ?_);(fail_if_success refine aa.same false C ?_);refine aa.hq C C (fun h=>?_) (fun h=>?_)|refine ae.cond C (fun h=>?_) (fun h=>?_))
 all_goals (refine Fin.cL I C (aR.of_eq (ac5 af.bool ?_));clear I;simp only [hj,j8];grind)
theorem Uh (w:bw) (m:Nat) {j:Nat} (o:Int) (h:w.owner[j]? = some o):((af7 (j+1)).filter fun s=>m.testBit (w.owner.getD s 0).toNat).map (fun (s:Nat)=>(s:Int))=(((af7 j).filter fun s=>m.testBit (w.owner.getD s 0).toNat).map fun (s:Nat)=>(s:Int))++(if m.testBit o.toNat then [(j:Int)] else []):=by
 rw [List.range_succ,List.filter_append,ac2];congr 1;have:w.owner.getD j 0=o:=by rw [d5,h];rfl
 rw [List.filter_cons,List.filter_nil,this];cases hm:m.testBit o.toNat<;>rfl
theorem Lr (w:bw) (hw:fQ w) (c:Nat) (aF:c<3+w.ps.length):aU d0 205 [fR w,.int .i64 (c:Int)] (bk (nC w ((eI w.ps).getD c 0))):=by
 have an:=bC;refine aU.bn aj Tryz.func205 C C fun s I=>?_
 have qk:=hw.j9;have gh:=hw.bj;have j2:=sG w.ps;obtain ⟨m,hm⟩:∃ m,(eI w.ps)[c]? = some m:=⟨_,f8 ag⟩;have oD:(eI w.ps).getD c 0=m:=by rw [d5,hm];rfl
 have hx:=xn qk m (d6 hm);rw [oD];obtain ⟨xs,ek⟩:∃ xs:Nat→List af,∀ j,xs j=(((af7 j).filter fun s=>m.testBit (w.owner.getD s 0).toNat).map fun (s:Nat)=>(s:Int)).map bb:=⟨_,fun _=>rfl⟩;have bo:xs 0=[]:=by rw [ek];rfl
 have hN:∀ j,(xs j).length≤j:=fun j=>by
  rw [ek,f5,f5];exact al5 (aj0 _ _) bc
 unfold fR e1;have tX:=fun s o (ao:w.owner[s]? = some ((o:Nat):Int)) ah=>Li w (z6 w) c s m o ag (xo hm) hx ao ah
 unfold e1 at tX;unfold pk fu bk at *;refine hs ?_;refine ae.ik I 3 1 0 fun I=>?_
 refine ae.cl [0,1,12] C I (σ:=Nat×bN) (fun q=>[(13,.int .i64 (q.1:Int)),(5,.ay 1 (xs q.1) q.2)]) (fun q=>[(q.2,.row 3 1 (xs q.1).length)]) (fun q=>q.1≤w.owner.length) (fun q=>w.owner.length-q.1) (0,.nil) (g9 _) ⟨⟨_,rfl,aM⟩,⟨_,rfl,by rw [bo];exact aR.nil hh⟩,trivial⟩ (by rw [bo];exact aH.ez _) ?_;rintro ⟨j,own⟩ aO I;simp only at aO I ⊢;refine ck ?_;refine ae.cond C (fun az=>?_) (fun a'=>?_);rotate_left;have a':j=w.owner.length:=by
  have:w.owner.length≤j:=by simpa using a'
  omega
 ·subst a'
  have he:xs w.owner.length=(nC w m).map bb:=by rw [ek];rfl
  rw [he];refine eH ?_;exact Fin.cL I C aR.aZ
 have az:j<w.owner.length:=by simpa using az
 obtain ⟨o,ah⟩:∃ o,w.owner[j]? = some o:=⟨_,f8 az⟩;obtain ⟨g1,g2⟩:=hw.own o (d6 ah);obtain ⟨q,rfl⟩:∃ q:Nat,o=q:=⟨o.toNat,by omega⟩;have ao:=ek (j+1);rw [Uh w m _ ah,ac2,← ek] at ao;have nq:=hN j;have U:=tX j q ah ag;refine cD ?_;refine ae.cond C (fun ar=>?_) (fun ar=>?_)
 ·have ao:xs (j+1)=xs j++[.int .i64 (j:Int)]:=by rw [ao];simp [ar,bb]
  have dj:(xs (j+1)).length=(xs j).length+1:=by rw [ao];simp
  refine j6 ?_;refine aa.gq aj I C C C C C C C ef C C C C C C C C aV h7 kX ag (fun b2 I=>?_);refine hI ?_;refine bF.mk (j+1,.own b2) I az o9 F5 (by show w.owner.length-(j+1)<w.owner.length-j;omega)
 ·have ao:xs (j+1)=xs j:=by rw [ao];simp [ar]
  refine gg ?_;refine bF.mk (j+1,own) I az o9 (by show aH _ [(_,.row _ _ (xs (j+1)).length)] _;rw [ao];exact aH.ez _) (by show w.owner.length-(j+1)<w.owner.length-j;omega)
abbrev hb (bf:List ev):af := .ay 2 (bf.map iG) .aZ
abbrev kE (l:List (Int×Int)):af := .ay 2 (l.map fK) .aZ
theorem Ui (bf:List ev) (v:Int×Int):ee d0 (.func 206 [] [.bs [hb bf] 0]) [fK v] (.bool (hj bf.length v)):=by
 have an:=bC;refine ee.fa (first:=[]) (cap:=[.bs [hb bf] 0]) ?_;refine aU.bn aj Tryz.func206 C C fun s I=>?_
 have h:=Lq v (bf.map iG).length;rw [show hj ((bf.map iG).length:Int) v=hj bf.length v by rw [f5]] at h;unfold fK at *;refine cD ?_;exact bA I
theorem Uj (bf:List ev) (v:Int×Int):ee d0 (.func 169 [] [.bs [hb bf] 0]) [fK v] (.bool (hj bf.length v)):=by
 have an:=bC;refine ee.fa (first:=[]) (cap:=[.bs [hb bf] 0]) ?_;refine aU.bn aj Tryz.func169 C C fun s I=>?_
 have h:=Lq v (bf.map iG).length;rw [show hj ((bf.map iG).length:Int) v=hj bf.length v by rw [f5]] at h;unfold fK at *;refine cD ?_;exact bA I
theorem Uk (w:bw) (hw:fQ w) (bf:List ev) (o:ev) (ah:o.bj.length<bt):ee d0 (.func 204 [] [.bs [fR w] 0,.bs [hb bf] 0]) [iG o] (.bool (zw w bf.length o)):=by
 have an:=bC;refine ee.fa (first:=[]) (cap:=[.bs [fR w] 0,.bs [hb bf] 0]) ?_;refine aU.bn aj Tryz.func204 C C fun s I=>?_
 obtain ⟨cls,bj⟩:=o;have qk:=hw.j9;have U:aU d0 199 [fR w,.int .i64 cls] (.bool (xp w cls)):=Lc w (z6 w) cls hw.j9;have al:=K' 206 [] [.bs [hb bf] 0] (hj bf.length) bj ah (fun v _=>Ui bf v);have hm:zw w bf.length ⟨cls,bj⟩=(xp w cls&&(decide (bj.length=(nC w ((eI w.ps).getD cls.toNat 0)).length)&&bj.all (hj bf.length))):=rfl;rw [hm];unfold iG;cases aF:xp w cls with
 | false=>
  rw [aF] at U;unfold fR e1 at *;refine cD ?_;exact bA I
 | true=>
  rw [aF] at U;unfold xp at aF;simp only [f6,g8] at aF;obtain ⟨c,rfl⟩:∃ c:Nat,cls=c:=⟨cls.toNat,by omega⟩;have ad:=Lr w hw c ag;unfold bk at ad;unfold fR e1 at *
  repeat' (first|(with_reducible first|apply ae.seq|apply b0|apply ae.ret)|refine c1 C ?_|refine aL.nil ?_|refine aL.step C ?_|refine ae.ln aj mixed C ?_|refine aL.dX C C C C C cq ?_|(fail_if_success refine aL.same true C ?_);(fail_if_success refine aL.same false C ?_);refine aL.hq C C (fun h=>?_) (fun h=>?_))
  all_goals (refine Fin.cL I C (aR.of_eq (ac5 af.bool ?_));clear I U ad al;rw [show ((c:Nat):Int).toNat=c from ac3 c];simp only [f5] at *;grind)
theorem Ul (w:bw) (hw:fQ w) (bf:List ev) (aB:bf.length<bt) (ah:∀ o∈bf,o.bj.length<bt):aU d0 167 [fR w,hb bf] (.bool (zx w bf)):=by
 have an:=bC;refine aU.bn aj Tryz.func167 C C fun s I=>?_
 have U:=TC 204 [] [.bs [fR w] 0,.bs [hb bf] 0] (zw w bf.length) bf aB (fun o h=>Uk w hw bf o (ah o h));unfold hb fR e1 at *
 repeat' (first|(with_reducible first|apply ae.seq|apply b0|apply ae.ret)|refine c1 C ?_|refine ae.cA ?_|refine aa.nil ?_|refine cx C ?_|refine aa.skip C C C ?_|refine aa.dX C C C C C cq ?_|(fail_if_success refine aa.same true C ?_);(fail_if_success refine aa.same false C ?_);refine aa.hq C C (fun h=>?_) (fun h=>?_))
 all_goals (refine Fin.cL I C (aR.of_eq (ac5 af.bool ?_));clear I U;simp only [zx,f5] at *;grind)
theorem Um (w:bw) (hw:fQ w) (bf:List ev) (args:List (Int×Int)) (aB:bf.length<bt) (ah:∀ o∈bf,o.bj.length<bt) (a8:args.length<bt):aU d0 123 [fR w,hb bf,kE args] (.bool (nD w bf args)):=by
 have an:=bC;refine aU.bn aj Tryz.func123 C C fun s I=>?_
 have U:=Ul w hw bf aB ah;have ad:=K' 169 [] [.bs [hb bf] 0] (hj bf.length) args a8 (fun v _=>Uj bf v);unfold hb kE fR e1 at *
 repeat' (first|(with_reducible first|apply ae.seq|apply b0|apply ae.ret)|refine c1 C ?_|refine ae.cA ?_|refine aa.nil ?_|refine cx C ?_|refine aa.skip C C C ?_|refine aa.dX C C C C C cq ?_|(fail_if_success refine aa.same true C ?_);(fail_if_success refine aa.same false C ?_);refine aa.hq C C (fun h=>?_) (fun h=>?_))
 all_goals (refine Fin.cL I C (aR.of_eq (ac5 af.bool ?_));clear I U ad;simp only [nD,f5] at *;grind)
theorem Un (w:bw):∀ (n:Nat) (f:aq),f.size≤n→n<bt→gR w f=true→aU d0 124 [f.cb] (.int .i64 (kY f)):=by
 have an:=bC;intro n
 induction n with
 | zero=>intro x h;have:=x.size_eq;omega
 | succ n aX=>
  intro f aA jB au;refine aU.bn aj Tryz.func124 C C fun s I=>?_
  have iQ:=f.size_eq;have hlen:=aq.p9 f.kids;have im:=Gc f;rw [pd,f6] at au;rw [aq.cE] at im ⊢;rw [Co];have a8:f.c7=true→aa' .i64 (f.arg+1)=f.arg+1:=fun aB=>by
   have aA:=au.1;simp only [hi,aB,ae2,f6,g8] at aA;exact er ag ag
  cases aB:f.c7 with
  | true=>
   rw [aB] at im;refine cD ?_;refine ae.cl [12,13] C I (σ:=Nat) (fun j=>[(14,.int .i64 (j:Int)),(3,.int .i64 (iF (if f.c7 then f.arg+1 else 0) (f.kids.take j)))]) (fun _=>[]) (fun j=>j≤f.kids.length) (fun j=>f.kids.length-j) 0 (g9 _) (by repeat (first|exact trivial|refine ⟨⟨_,rfl,aM⟩,?_⟩|refine ⟨⟨_,rfl,aR.of_eq tS⟩,?_⟩)) a7 ?_;rintro j aO I;refine ck ?_;refine ae.cond C (fun az=>?_) (fun a'=>?_);rotate_left
   ·have a':j=f.kids.length:=by simp at a';omega
    subst a';rw [ac'];refine eH ?_;exact Fin.cL I C (aR.of_eq (by rw [aB]))
   have az:j<f.kids.length:=by simpa using az
   obtain ⟨k,aD,eu⟩:=cf (f:=aq.cb) az;have hm:=aq.iD (d6 aD);have aF:=aX k ag ag (lq au.2 (d6 aD));rw [aq.cE] at eu aF
   repeat (first|(refine JQ I ?_;clear I;intro I)|refine aa.dO aj I rfl rfl rfl rfl rfl rfl rfl (fun cy I=>?_)|(refine oi ?_))
   refine bF.mk (j+1) I az (by repeat (first|exact trivial|refine ⟨⟨_,rfl,aM⟩,?_⟩|refine ⟨⟨_,rfl,aR.of_eq tR⟩,?_⟩)) a7 oB
  | false=>
   rw [aB] at im;refine cD ?_;refine ae.cl [12,13] C I (σ:=Nat) (fun j=>[(14,.int .i64 (j:Int)),(3,.int .i64 (iF (if f.c7 then f.arg+1 else 0) (f.kids.take j)))]) (fun _=>[]) (fun j=>j≤f.kids.length) (fun j=>f.kids.length-j) 0 (g9 _) (by repeat (first|exact trivial|refine ⟨⟨_,rfl,aM⟩,?_⟩|refine ⟨⟨_,rfl,aR.of_eq tS⟩,?_⟩)) a7 ?_;rintro j aO I;refine ck ?_;refine ae.cond C (fun az=>?_) (fun a'=>?_);rotate_left
   ·have a':j=f.kids.length:=by simp at a';omega
    subst a';rw [ac'];refine eH ?_;exact Fin.cL I C (aR.of_eq (by rw [aB]))
   have az:j<f.kids.length:=by simpa using az
   obtain ⟨k,aD,eu⟩:=cf (f:=aq.cb) az;have hm:=aq.iD (d6 aD);have aF:=aX k ag ag (lq au.2 (d6 aD));rw [aq.cE] at eu aF
   repeat (first|(refine JQ I ?_;clear I;intro I)|refine aa.dO aj I rfl rfl rfl rfl rfl rfl rfl (fun cy I=>?_)|(refine oi ?_))
   refine bF.mk (j+1) I az (by repeat (first|exact trivial|refine ⟨⟨_,rfl,aM⟩,?_⟩|refine ⟨⟨_,rfl,aR.of_eq tR⟩,?_⟩)) a7 oB
def sO:af := .iface 298 (.agg [])
theorem Uo (_u:Unit):aU d0 223 [.bool true] (.cg []):=by
 have an:=bC;refine aU.bn aj Tryz.func223 C C fun s I=>?_
 refine bG ?_;exact bA I
theorem Up (_u:Unit):bz d0 223 [.bool false] ([]) (fun o K=>o = .panic sO∧K=[]):=by
 have an:=bC;refine bz.bn aj Tryz.func223 C C fun s I=>?_
 refine bG ?_;refine aa.panic C C C C ?_;exact Fin.e6 I aM .nil ⟨rfl,rfl⟩
theorem Ls (n:Int):aU d0 257 [.int .i64 n] (.bool (j8 n)):=by
 have an:=bC;refine aU.bn aj Tryz.func257 C C fun s I=>?_
 repeat' (first|(with_reducible first|apply ae.seq|apply b0|apply ae.ret)|refine c1 C ?_|refine ae.cA ?_|refine aa.nil ?_|refine cx C ?_|refine aa.skip C C C ?_|(fail_if_success refine aa.same true C ?_);(fail_if_success refine aa.same false C ?_);refine aa.hq C C (fun h=>?_) (fun h=>?_))
 all_goals (refine Fin.cL I C (aR.of_eq (ac5 af.bool ?_));clear I;unfold j8;grind)
theorem Uq (c:e3) (aF:c.parents.length<bt):ee d0 (.func 232 [] []) [gI c] (bk c.parents):=by
 have an:=bC;refine ee.fa (first:=[]) (cap:=[]) ?_;refine aU.bn aj Tryz.func232 C C fun s I=>?_
 have U:=zT c.parents .aZ aF;unfold gI lv bk at *;refine cD ?_;exact bA I
theorem Ur (cs:List e3) (aB:cs.length<bt) (hp:∀ c∈cs,c.parents.length<bt):aU d0 231 [.ay 3 (cs.map gI) .aZ,.func 232 [] []] (dv (cs.map e3.parents)):=by
 have an:=bC;refine aU.bn aj Tryz.func231 C C fun s I=>?_
 obtain ⟨xs,ek⟩:∃ xs:Nat→List af,∀ j,xs j=((cs.take j).map e3.parents).map bk:=⟨_,fun _=>rfl⟩;have bo:xs 0=[]:=by rw [ek];rfl
 have hN:∀ j,(xs j).length≤cs.length:=fun j=>by
  rw [ek,f5,f5];exact ai1 _ _
 unfold dv;refine hs ?_;refine ae.ik I 23 1 0 fun I=>?_
 refine ae.cl [1,8,9] C I (σ:=Nat×bN) (fun q=>[(10,.int .i64 (q.1:Int)),(5,.ay 1 (xs q.1) q.2)]) (fun q=>[(q.2,.row 23 1 (xs q.1).length)]) (fun q=>q.1≤cs.length) (fun q=>cs.length-q.1) (0,.nil) (g9 _) ⟨⟨_,rfl,aM⟩,⟨_,rfl,by rw [bo];exact aR.nil hh⟩,trivial⟩ (by rw [bo];exact aH.ez _) ?_;rintro ⟨j,own⟩ aO I;simp only at aO I ⊢;refine ck ?_;refine ae.cond C (fun az=>?_) (fun a'=>?_);rotate_left;have a':j=cs.length:=by
  have:cs.length≤j:=by simpa using a'
  omega
 ·subst a'
  have he:xs cs.length=(cs.map e3.parents).map bk:=by rw [ek,ac']
  rw [he];have Lt:=Ty ((cs.map e3.parents).map bk) own;refine di ?_;exact Fin.cL I C aR.aZ
 have az:j<cs.length:=by simpa using az
 obtain ⟨c,ax,da⟩:=cf (f:=gI) az;have ao:=ek (j+1);rw [js ax,ac2,ac2,← ek] at ao;have ao:xs (j+1)=xs j++[.ay 1 (c.parents.map bb) .aZ]:=ao;have dj:(xs (j+1)).length=(xs j).length+1:=by rw [ao];simp
 have nq:=hN j;have rp:=Uq c (hp c (d6 ax));unfold gI lv bk at *;refine fP ?_;refine aa.gq aj I C C C C C C C ef C C C C C C C C aV h7 pa ag (fun b2 I=>?_);refine hI ?_;refine bF.mk (j+1,.own b2) I az o9 F5 CE
structure fD (p:bK):Prop where
 cls:p.bT.length<bt
 each:∀ c∈p.bT,c.parents.length<bt∧c.bj.length<bt∧c.inits.length<bt
 cR:p.cR.length<bt
 xK:p.methods.length<bt
 facts:∀ m∈p.methods,3*m.fact.size+3<bt
 nodes:p.nodes.length<bt
 kids:∀ x∈p.nodes,x.kids.length<bt
theorem Lu (p:bK) (aE:fD p):aU d0 188 [cW p] (dv (gH p)):=by
 have an:=bC;refine aU.bn aj Tryz.func188 C C fun s I=>?_
 have U:=Ur p.bT aE.cls (fun c h=>(aE.each c h).1);unfold cW cV;unfold dv gH at *;refine cD ?_;exact bA I
theorem Lv (f:aq):aU d0 134 [f.cb] (.bool f.c7):=by
 have an:=bC;refine aU.bn aj Tryz.func134 C C fun s I=>?_
 rw [aq.cE]
 repeat' (first|(with_reducible first|apply ae.seq|apply b0|apply ae.ret)|refine c1 C ?_|refine ae.cA ?_|refine aa.nil ?_|refine cx C ?_|refine aa.skip C C C ?_|(fail_if_success refine aa.same true C ?_);(fail_if_success refine aa.same false C ?_);refine aa.hq C C (fun h=>?_) (fun h=>?_))
 all_goals (refine Fin.cL I C (aR.of_eq (ac5 af.bool ?_));clear I;unfold aq.c7;grind)
theorem Us (w:bw) (c:Int) (hw:w.ps.length≤60):aU d0 132 [fw w,.int .i64 c] (.bool (decide (c≥0)&&decide (c<3+(w.ps.length:Int)))):=by
 have an:=bC;refine aU.bn aj Tryz.func132 C C fun s I=>?_
 unfold fw fu dv bk;have eg:aa' .i64 (3+((w.ps.map bk).length:Int))=3+(w.ps.length:Int):=by rw [f5,er ag ag]
 unfold bk at eg
 repeat' (first|(with_reducible first|apply ae.seq|apply b0|apply ae.ret)|refine c1 C ?_|refine ae.cA ?_|refine aa.nil ?_|refine cx C ?_|refine aa.skip C C C ?_|(fail_if_success refine aa.same true C ?_);(fail_if_success refine aa.same false C ?_);refine aa.hq C C (fun h=>?_) (fun h=>?_))
 all_goals exact Fin.cL I C (aR.of_eq sN)
theorem Ut (w:bw) (l:List Int) (aB:l.length<bt):aU d0 133 [fw w,bk l] (.bool (l.all (fun c=>decide (c≥0)&&decide (c<(w.owner.length:Int)))&&decide (l.length≤2))):=by
 have an:=bC;refine aU.bn aj Tryz.func133 C C fun s I=>?_
 unfold fw fu dv bk;refine hs ?_;refine ae.cl [0,1,2,7,8] C I (σ:=Nat) (fun j=>[(9,.int .i64 (j:Int))]) (fun _=>[]) (fun j=>j≤l.length∧l.all (fun c=>decide (c≥0)&&decide (c<(w.owner.length:Int)))=(l.drop j).all (fun c=>decide (c≥0)&&decide (c<(w.owner.length:Int)))) (fun j=>l.length-j) 0 ⟨g9 _,rfl⟩ (cI C) a7 ?_;rintro j ⟨aO,aw⟩ I
 try simp only at aO aw I ⊢
 refine ck ?_;refine ae.cond C (fun az=>?_) (fun a'=>?_);rotate_left
 ·have a':j=l.length:=by simp at a';omega
  rw [eR ag,an3] at aw;rw [aw,f4];refine eH ?_;exact Fin.cL I C (aR.of_eq sN)
 have az:j<l.length:=by simpa using az
 obtain ⟨x,ab,ct⟩:=cf (f:=bb) az;rw [drop_cons ab,aj6] at aw;unfold bb at ct;refine ej ?_;cases U:decide (x≥0) with
 | false=>
  rw [U,f7,f7] at aw;rw [aw,f7];refine aa.dW 15 C (by simp at U ⊢;omega) ?_;refine fB ?_;exact bA I
 | true=>
 rw [U,f4] at aw;refine aa.dc 15 C (by simp at U ⊢;omega) ?_;refine ga ?_;refine ae.cond C (fun ad=>?_) (fun ad=>?_)
 ·rw [show decide (x<(w.owner.length:Int))=false by simp at ad ⊢;omega,f7] at aw
  rw [aw,f7];refine kx ?_;exact bA I
 rw [show decide (x<(w.owner.length:Int))=true by simp at ad ⊢;omega,f4] at aw;refine gg ?_;exact bF.mk (j+1) I ⟨az,aw⟩ cC a7 rk
theorem Uu:∀ (n:Nat) (f:aq) (ft:Int),f.size≤n→n<bt → -bt≤ft→ft≤bt→aU d0 131 [f.cb,.int .i64 ft] (.int .i64 (mw f ft)):=by
 have an:=bC;intro n
 induction n with
 | zero=>intro f ft h;have:=f.size_eq;omega
 | succ n aX=>
 intro f ft aA jB pU lP;have iQ:=f.size_eq;have hlen:=aq.p9 f.kids;have Lt:=tL f.kids;refine aU.bn aj Tryz.func131 C C fun s I=>?_
 rw [aq.cE];refine hs ?_;refine ae.cl [1,2] C I (σ:=Nat×Int) (fun q=>[(6,.int .i64 (q.1:Int)),(5,.int .i64 q.2)]) (fun _=>[]) (fun q=>q.1≤f.kids.length∧ow f.kids ft 1=ow (f.kids.drop q.1) ft q.2∧1≤q.2∧q.2+j' (f.kids.drop q.1)≤1+j' f.kids) (fun q=>f.kids.length-q.1) (0,1) ⟨g9 _,rfl,aj4 _,aj4 _⟩ (cI C) a7 ?_;rintro ⟨j,m⟩ ⟨aO,aw,hm,aF⟩ I
 try simp only at aO aw hm aF I ⊢
 have Uv:=tL (f.kids.drop j);refine j6 ?_;by_cases az:j<f.kids.length;rotate_left
 ·rw [eR ag,ow] at aw
  refine aa.dc 12 C cO ?_;rw [Kl,aw];refine bG ?_;exact bA I
 refine aa.dW 12 C cO ?_;obtain ⟨x,ab,ct⟩:=cf (f:=aq.cb) az;rw [drop_cons ab,ow] at aw;rw [drop_cons ab,j'] at aF;rw [drop_cons ab,j'] at Uv;refine ga ?_;refine ae.cond C (fun ad=>?_) (fun ad=>?_);rotate_left
 ·rw [f0 rX] at aw
  rw [Kl,aw];refine eH ?_;exact bA I
 have ad:m≤ft:=by simpa using ad
 rw [f9 ad] at aw;have fV:=aq.iD (d6 ab);have Lw:=Cx x;have aa8:=(FC x (ft-m)).2.2;have aa9:=tL (f.kids.drop (j+1));have ja:=aX x (ft-m) ag ag ag ag;rw [aq.cE] at ja ct;rw [show ft-m=aa' .i64 (ft-m) by rw [er ag ag]] at ja;refine cD ?_;exact bF.mk (j+1,m+mw x (ft-m)) I ⟨az,aw,by show 1≤m+mw x (ft-m);omega,by show m+mw x (ft-m)+j' (f.kids.drop (j+1))≤_;omega⟩ (by repeat (first|exact trivial|refine ⟨⟨_,rfl,aM⟩,?_⟩|refine ⟨⟨_,rfl,aR.of_eq (by (first|rw [kV ag]|(rw [er Fc Fc,er ag ag])))⟩,?_⟩)) a7 oB
theorem Uw (f:aq) (a1:f.size<bt):aU d0 85 [f.cb] (.int .i64 (mw f 24)):=by
 have an:=bC;refine aU.bn aj Tryz.func85 C C fun s I=>?_
 have U:=Uu f.size f 24 (i0 _) a1 ag ag;rw [aq.cE] at *;refine cD ?_;exact bA I
theorem Ux:∀ (n:Nat) (f:aq),f.size≤n→n<bt→aU d0 86 [f.cb] (.int .i64 (mx f)):=by
 have an:=bC;intro n
 induction n with
 | zero=>intro f h;have:=f.size_eq;omega
 | succ n aX=>
 intro f aA jB;have iQ:=f.size_eq;have hlen:=aq.p9 f.kids;have Lx:=FE f;refine aU.bn aj Tryz.func86 C C fun s I=>?_
 rw [SL] at Lx ⊢;rw [aq.cE];refine hs ?_;refine ae.cl [1,7,8] C I (σ:=Nat×Int) (fun q=>[(9,.int .i64 (q.1:Int)),(3,.int .i64 q.2)]) (fun _=>[]) (fun q=>q.1≤f.kids.length∧lr 0 f.kids=lr q.2 (f.kids.drop q.1)∧0≤q.2) (fun q=>f.kids.length-q.1) (0,0) ⟨g9 _,rfl,aj4 _⟩ (cI C) a7 ?_;rintro ⟨j,m⟩ ⟨aO,aw,hm⟩ I
 try simp only at aO aw hm I ⊢
 refine ck ?_;refine ae.cond C (fun az=>?_) (fun a'=>?_);rotate_left
 ·have a':j=f.kids.length:=by simp at a';omega
  rw [eR ag,lr] at aw;rw [aw] at Lx ⊢;refine eH ?_;exact Fin.cL I C (aR.of_eq (by rw [er ag ag]))
 have az:j<f.kids.length:=by simpa using az
 obtain ⟨x,ab,ct⟩:=cf (f:=aq.cb) az;rw [drop_cons ab,lr] at aw;have fV:=aq.iD (d6 ab);have Lw:=FE x;have ja:=aX x ag ag;rw [aq.cE] at ja ct;refine fP ?_;exact bF.mk (j+1,max m (mx x)) I ⟨az,aw,by show 0≤max m (mx x);omega⟩ (by repeat (first|exact trivial|refine ⟨⟨_,rfl,aM⟩,?_⟩|refine ⟨⟨_,rfl,aR.of_eq (by (first|rw [kV ag]|(congr 1;split<;>omega)))⟩,?_⟩)) a7 oB
theorem Uy (w:bw):∀ (n:Nat) (f:aq),f.size≤n→n<bt→gR w f=true→aU d0 137 [f.cb] (.int .i64 (kY f)):=by
 have an:=bC;intro n
 induction n with
 | zero=>intro x h;have:=x.size_eq;omega
 | succ n aX=>
  intro f aA jB au;refine aU.bn aj Tryz.func137 C C fun s I=>?_
  have iQ:=f.size_eq;have hlen:=aq.p9 f.kids;have im:=Lv f;rw [pd,f6] at au;rw [aq.cE] at im ⊢;rw [Co];have a8:f.c7=true→aa' .i64 (f.arg+1)=f.arg+1:=fun aB=>by
   have aA:=au.1;simp only [hi,aB,ae2,f6,g8] at aA;exact er ag ag
  cases aB:f.c7 with
  | true=>
   rw [aB] at im;refine cD ?_;refine ae.cl [1,12,13] C I (σ:=Nat) (fun j=>[(14,.int .i64 (j:Int)),(3,.int .i64 (iF (if f.c7 then f.arg+1 else 0) (f.kids.take j)))]) (fun _=>[]) (fun j=>j≤f.kids.length) (fun j=>f.kids.length-j) 0 (g9 _) (by repeat (first|exact trivial|refine ⟨⟨_,rfl,aM⟩,?_⟩|refine ⟨⟨_,rfl,aR.of_eq tS⟩,?_⟩)) a7 ?_;rintro j aO I;refine ck ?_;refine ae.cond C (fun az=>?_) (fun a'=>?_);rotate_left
   ·have a':j=f.kids.length:=by simp at a';omega
    subst a';rw [ac'];refine eH ?_;exact Fin.cL I C (aR.of_eq (by rw [aB]))
   have az:j<f.kids.length:=by simpa using az
   obtain ⟨k,aD,eu⟩:=cf (f:=aq.cb) az;have hm:=aq.iD (d6 aD);have aF:=aX k ag ag (lq au.2 (d6 aD));rw [aq.cE] at eu aF;refine fP ?_;refine bF.mk (j+1) I az (by repeat (first|exact trivial|refine ⟨⟨_,rfl,aM⟩,?_⟩|refine ⟨⟨_,rfl,aR.of_eq tR⟩,?_⟩)) a7 oB
  | false=>
   rw [aB] at im;refine cD ?_;refine ae.cl [1,12,13] C I (σ:=Nat) (fun j=>[(14,.int .i64 (j:Int)),(3,.int .i64 (iF (if f.c7 then f.arg+1 else 0) (f.kids.take j)))]) (fun _=>[]) (fun j=>j≤f.kids.length) (fun j=>f.kids.length-j) 0 (g9 _) (by repeat (first|exact trivial|refine ⟨⟨_,rfl,aM⟩,?_⟩|refine ⟨⟨_,rfl,aR.of_eq tS⟩,?_⟩)) a7 ?_;rintro j aO I;refine ck ?_;refine ae.cond C (fun az=>?_) (fun a'=>?_);rotate_left
   ·have a':j=f.kids.length:=by simp at a';omega
    subst a';rw [ac'];refine eH ?_;exact Fin.cL I C (aR.of_eq (by rw [aB]))
   have az:j<f.kids.length:=by simpa using az
   obtain ⟨k,aD,eu⟩:=cf (f:=aq.cb) az;have hm:=aq.iD (d6 aD);have aF:=aX k ag ag (lq au.2 (d6 aD));rw [aq.cE] at eu aF;refine fP ?_;refine bF.mk (j+1) I az (by repeat (first|exact trivial|refine ⟨⟨_,rfl,aM⟩,?_⟩|refine ⟨⟨_,rfl,aR.of_eq tR⟩,?_⟩)) a7 oB
def vS (w:bw) (f:aq):Bool:=
 if f.op=2 then decide (f.n=0)&&(decide (f.cls≥0)&&decide (f.cls<3+(w.ps.length:Int)))
 else if f.op=3∨f.op=4 then decide (f.cls=0)&&j8 f.n
 else decide (f.op=1∨5≤f.op∧f.op≤7)
def tY (w:bw) (f:aq):Bool:=
 decide (f.kids.length=q9 f.op)&&(decide (f.arg≥0)&&(decide (f.arg<3)&&(f.path.all (fun c=>decide (c≥0)&&decide (c<(w.owner.length:Int)))&&(decide (f.path.length≤2) &&
  (f.c7||(decide (f.arg=0)&&(decide (f.path.length=0)&&(decide (f.cls=0)&&decide (f.n=0)))))))))
theorem Uz (w:bw) (f:aq):hi w f=(vS w f&&tY w f):=by
 rw [ad1];unfold hi vS tY aq.c7 j8;simp only [f6,ag9,g8,ae'];grind
theorem UA (w:bw) (hw:w.ps.length≤60):∀ (n:Nat) (f:aq),f.size≤n→n<bt→aU d0 87 [fw w,f.cb] (.bool (gR w f)):=by
  have an:=bC;intro n
  induction n with
  | zero=>intro x h;have:=x.size_eq;omega
  | succ n aX=>
    intro f aA jB;refine aU.bn aj Tryz.func87 C C fun s I=>?_
    have iQ:=f.size_eq;have hlen:=aq.p9 f.kids;have ad:=Lv f;have al:=Ut w f.path ag;have bd:=Us w f.cls hw;rw [pd,Uz];rw [aq.cE] at ad ⊢;unfold fw fu dv bk at al bd ⊢;refine ae.seq ?_
    (repeat (first|with_reducible apply b0|refine c1 C ?_|refine ae.cA ?_|refine aa.nil ?_|refine cx C ?_));refine ae.seq ?_
    (repeat (first|with_reducible apply b0|refine c1 C ?_|refine ae.cA ?_|refine aa.nil ?_|refine cx C ?_));refine ae.seq (ae.Ss (σ:=Unit) (fun _=>[(2,.bs [.ay 1 (w.ps.map fun l => .ay 1 (l.map bb) .aZ) .aZ,.ay 1 (w.owner.map bb) .aZ] 0),(3,.bs f.cells 0),(5,.int .i64 (q9 f.op))]) (fun _=>[]) (fun _=>vS w f=true) ?_ ?_)
    · repeat' (first|(with_reducible first|apply ae.seq|apply b0|apply fz|apply hr|apply ae.ret|apply ae.skip|apply ae.block)|refine c1 C ?_|refine ae.cA ?_|refine aa.nil ?_|refine ae.fL C ?_|refine cx C ?_|refine aa.skip C C C ?_|refine aa.dX C C C C C cq ?_|(fail_if_success refine aa.same true C ?_);(fail_if_success refine aa.same false C ?_);refine aa.hq C C (fun h=>?_) (fun h=>?_)|refine ae.cond C (fun h=>?_) (fun h=>?_))
      all_goals first
        | (have key:vS w f=false:=by
            clear aX I ad al bd aA iQ
            unfold vS j8
            grind
           exact Fin.cL I C (aR.of_eq (by rw [key];rfl)))
        | (have key:vS w f=true:=by
            clear aX I ad al bd aA iQ
            unfold vS j8
            grind
           exact Cf.mk () I key (by repeat (first|exact trivial|refine ⟨⟨_,rfl,aM⟩,?_⟩|refine ⟨⟨_,rfl,aR.of_eq (by (congr 1;clear aX I ad al bd aA iQ;unfold q9;grind))⟩,?_⟩)) .nil)
    rintro _ ah I;unfold aq.cells;rw [ah,f4]
    have bm:∀ b,f.c7=b→tY w f=(decide (f.kids.length=q9 f.op)&&(decide (f.arg≥0)&&(decide (f.arg<3)&&(f.path.all (fun c=>decide (c≥0)&&decide (c<(w.owner.length:Int)))&&(decide (f.path.length≤2) &&
      (b||(decide (f.arg=0)&&(decide (f.path.length=0)&&(decide (f.cls=0)&&decide (f.n=0)))))))))):=fun b an=>(by unfold tY;rw [an])
    cases aB:f.c7 with
    | true=>
      rw [aB] at ad;have bm:=bm _ aB
      repeat' (first|(with_reducible first|apply ae.seq|apply b0|apply fW|apply ae.ret|apply ae.skip|apply ae.block)|refine c1 C ?_|refine ae.cA ?_|refine aa.nil ?_|refine ae.fL C ?_|refine ae.gA C ?_|refine cx C ?_|refine aa.skip C C C ?_|refine aa.dX C C C C C cq ?_|(fail_if_success refine aa.same true C ?_);(fail_if_success refine aa.same false C ?_);refine aa.hq C C (fun h=>?_) (fun h=>?_)|refine ae.cond C (fun h=>?_) (fun h=>?_))
      all_goals first
        | (have key:tY w f=false:=by
            clear aX I ad al bd aA iQ
            rw [bm]
            simp only [f5] at *
            grind
           exact Fin.cL I C (aR.of_eq (by rw [key];rfl)))
        | skip
      · have key:tY w f=true:=by
          clear aX I ad al bd aA iQ;rw [bm];simp only [f5] at *;grind
        rw [key,f4];clear key;skip;refine ae.cl [2,3,92,93] C I (σ:=Nat) (fun j=>[(94,.int .i64 (j:Int))]) (fun _=>[]) (fun j=>j≤f.kids.length∧jH w f.kids=jH w (f.kids.drop j)) (fun j=>f.kids.length-j) 0 ⟨g9 _,rfl⟩ (cI C) a7 ?_;rintro j ⟨aO,aw⟩ I
        try simp only at aO aw I ⊢
        refine ck ?_;refine ae.cond C (fun az=>?_) (fun a'=>?_);rotate_left
        · have a':j=f.kids.length:=by simp at a';omega
          rw [eR ag,jH] at aw;rw [aw];refine eH ?_;exact bA I
        have az:j<f.kids.length:=by simpa using az
        obtain ⟨x,ab,ct⟩:=cf (f:=aq.cb) az;rw [drop_cons ab,jH] at aw;have fV:=aq.iD (d6 ab);have ja:=aX x ag ag;rw [aq.cE] at ja ct;unfold fw fu dv bk at ja;cases au:gR w x with
        | false=>
          rw [au,f7] at aw;rw [au] at ja;rw [aw];refine fP ?_;exact bA I
        | true=>
          rw [au,f4] at aw;rw [au] at ja;refine fP ?_;exact bF.mk (j+1) I ⟨az,aw⟩ cC a7 oB
    | false=>
      rw [aB] at ad;have bm:=bm _ aB
      repeat' (first|(with_reducible first|apply ae.seq|apply b0|apply fW|apply ae.ret|apply ae.skip|apply ae.block)|refine c1 C ?_|refine ae.cA ?_|refine aa.nil ?_|refine ae.fL C ?_|refine cx C ?_|refine aa.skip C C C ?_|refine aa.dX C C C C C cq ?_|(fail_if_success refine aa.same true C ?_);(fail_if_success refine aa.same false C ?_);refine aa.hq C C (fun h=>?_) (fun h=>?_)|refine ae.cond C (fun h=>?_) (fun h=>?_))
      all_goals first
        | (have key:tY w f=false:=by
            clear aX I ad al bd aA iQ
            rw [bm]
            simp only [f5] at *
            grind
           exact Fin.cL I C (aR.of_eq (by rw [key];rfl)))
        | skip
      · have key:tY w f=true:=by
          clear aX I ad al bd aA iQ;rw [bm];simp only [f5] at *;grind
        rw [key,f4];clear key;skip;refine ae.cl [2,3,92,93] C I (σ:=Nat) (fun j=>[(94,.int .i64 (j:Int))]) (fun _=>[]) (fun j=>j≤f.kids.length∧jH w f.kids=jH w (f.kids.drop j)) (fun j=>f.kids.length-j) 0 ⟨g9 _,rfl⟩ (cI C) a7 ?_;rintro j ⟨aO,aw⟩ I
        try simp only at aO aw I ⊢
        refine ck ?_;refine ae.cond C (fun az=>?_) (fun a'=>?_);rotate_left
        · have a':j=f.kids.length:=by simp at a';omega
          rw [eR ag,jH] at aw;rw [aw];refine eH ?_;exact bA I
        have az:j<f.kids.length:=by simpa using az
        obtain ⟨x,ab,ct⟩:=cf (f:=aq.cb) az;rw [drop_cons ab,jH] at aw;have fV:=aq.iD (d6 ab);have ja:=aX x ag ag;rw [aq.cE] at ja ct;unfold fw fu dv bk at ja;cases au:gR w x with
        | false=>
          rw [au,f7] at aw;rw [au] at ja;rw [aw];refine fP ?_;exact bA I
        | true=>
          rw [au,f4] at aw;rw [au] at ja;refine fP ?_;exact bF.mk (j+1) I ⟨az,aw⟩ cC a7 oB
theorem UB (w:bw) (hw:w.ps.length≤60) (f:aq) (a1:f.size<bt):aU d0 35 [fw w,f.cb] (.bool (il w f)):=by
 have an:=bC;refine aU.bn aj Tryz.func35 C C fun s I=>?_
 have U:=Uw f a1;have ad:=Ux f.size f (i0 _) a1;have al:=UA w hw f.size f (i0 _) a1;rw [← SM];rw [aq.cE] at *;unfold fw fu dv bk at *
 repeat' (first|(with_reducible first|apply ae.seq|apply b0|apply ae.ret)|refine c1 C ?_|refine ae.cA ?_|refine aa.nil ?_|refine cx C ?_|refine aa.skip C C C ?_|refine aa.dX C C C C C cq ?_|(fail_if_success refine aa.same true C ?_);(fail_if_success refine aa.same false C ?_);refine aa.hq C C (fun h=>?_) (fun h=>?_))
 all_goals (refine Fin.cL I C (aR.of_eq (ac5 af.bool ?_));clear I U ad al;grind)
def mA (n:Nat) (f:Nat→Bool):List af:=(af7 n).map fun k => .bool (f k)
theorem sP (n:Nat) (f:Nat→Bool):(mA n f).length=n:=by unfold mA;simp
theorem z7 {n:Nat} (f:Nat→Bool) {k:Nat} (h:k<n):(mA n f)[k]? = some (.bool (f k)):=by
 unfold mA;rw [ad7,List.getElem?_range h];rfl
theorem Gg {n p:Nat} {b:Bool} {g g':Nat→Bool} (h:∀ k,g' k=if k=p then b else g k):(mA n g).set p (.bool b)=mA n g':=by
 refine List.ext_getElem? fun i=>?_
 rw [List.getElem?_set,sP];by_cases aS:i<n
 ·rw [z7 _ aS,z7 _ aS,h]
  by_cases e:p=i
  ·subst e;rw [f9 C,f9 aS,f9 C]
  ·rw [f0 e,f0 (fun h=>e h.symm)]
 ·rw [aj9 (by rw [sP];omega),aj9 (by rw [sP];omega)]
  split
  ·split<;>first|omega|rfl
  ·rfl
theorem UC (n:Nat):t6 n (af.bool false)=mA n (fun _=>false):=by
 unfold mA;rw [List.map_const',List.length_range]
theorem UD (n:Nat) (f:Nat→Bool):(mA n f).all e4=true:=by
 unfold mA;rw [List.all_map];simp [Function.comp_def,e4]
theorem UE {l:List Int} {j:Nat} {p:Int} (h:l[j]? = some p) (k:Int):(l.take (j+1)).contains k=((l.take j).contains k||k==p):=by
 rw [js h,List.contains_append,List.contains_cons,List.contains_nil,ak5]
theorem UF (w:bw) (hw:fQ w) (c:Nat) (aF:c<3+w.ps.length):aU d0 186 [fw w,.int .i64 (c:Int)] (.ay 1 (mA (3+w.ps.length) (vF w c)) .aZ):=by
 have an:=bC;refine aU.bn aj Tryz.func186 C C fun s I=>?_
 have tZ:=hw.j9;unfold fw fu dv bk;have eg:aa' .i64 (3+((w.ps.map fun l=>af.ay 1 (l.map bb) .aZ).length:Int))=((3+w.ps.length:Nat):Int):=by rw [f5,er ag ag];push_cast;rfl
 refine dz ?_;refine aa.xC aj I (3+w.ps.length) C C C C C C C C C C (ac5 (fun z=>some (af.int .i64 z)) eg) (ac5 (fun z=>some (af.int .i64 z)) eg) (by show _*1≤_;omega) ag (fun b I=>?_);rw [UC] at I ⊢;refine hQ ?_;refine aa.gi aj c C C C C C C C C C C aF ?_;refine aa.lY aj I (mA (3+w.ps.length) fun k=>decide (k=c)) C C C C C C C C C aV (by rw [sP];show c*1+1≤_;omega) (by rw [rj,ah2];exact Gg fun k=>by by_cases e:k=c<;>simp [e]) (fun I=>?_);refine bG ?_;refine ae.cl [2,5] C I (σ:=Nat×(Nat→Bool)) (fun q=>[(6,.int .i64 (q.1:Int))]) (fun q=>[(.own b,.box 4 (mA (3+w.ps.length) q.2))]) (fun q=>q.1≤c∧vF w c=gG w.ps (q.1-2) q.2) (fun q=>q.1) (c,fun k=>decide (k=c)) ⟨i0 _,rfl⟩ (cI C) a7 ?_;rintro ⟨q,f⟩ ⟨bp,aw⟩ I
 try simp only at bp aw I ⊢
 refine ck ?_;refine ae.cond C (fun a'=>?_) (fun az=>?_);rotate_left
 ·have az:q<3:=by simp at az;omega
  rw [show q-2=0 by omega,gG] at aw;refine ae.tF I 5 b (n:=3+w.ps.length) (cap:=3+w.ps.length) C .here (by rw [sP]) ag ag (by rw [ae8 (by rw [sP];omega)];exact UD _ _) (fun I=>?_);rw [ae8 (by rw [sP];omega),aw];refine eH ?_;exact bA I
 have a':3≤q:=by simp at a';omega
 obtain ⟨m,rfl⟩:∃ m,q=3+m:=⟨q-3,by omega⟩;obtain ⟨l,aB,o6⟩:=cf (f:=bk) (show m<w.ps.length by omega);have UG:=fun p aE=>xq hw aB (p:=p) aE
 have aba:=hw.short l (d6 aB);have ky:aa' .i64 (((3+m:Nat):Int)-3)=(m:Int):=by rw [er ag ag];omega
 rw [show 3+m-2=m+1 by omega,gG,d5,aB,ae7] at aw;unfold bk at o6;refine ej ?_;refine aa.idx aj m C C C C C C C C C C ky o6 C ?_;refine ej ?_
 refine ae.cl [2,5,6,27,28] C I (σ:=Nat) (fun j=>[(29,.int .i64 (j:Int))]) (fun j=>[(.own b,.box 4 (mA (3+w.ps.length) fun k=>f k||(f (3+m)&&(l.take j).contains (k:Int))))]) (fun j=>j≤l.length) (fun j=>l.length-j) 0 (g9 _) (cI C) (by
  rw [show (fun k=>f k||(f (3+m)&&(l.take 0).contains (k:Int)))=f from funext fun k=>by rw [aj8];simp]
  exact aH.all _) ?_
 rintro j aO I
 try simp only at aO I ⊢
 refine ck ?_;refine ae.cond C (fun az=>?_) (fun a'=>?_);rotate_left
 ·have a':j=l.length:=by simp at a';omega
  rw [a',ac'] at I ⊢;refine bG ?_;exact bF.mk (2+m,fun k=>f k||(f (3+m)&&l.contains (k:Int))) I ⟨by show 2+m≤c;omega,by show _=gG w.ps (2+m-2) _;rw [show 2+m-2=m by omega];exact aw⟩ (by repeat (first|exact trivial|refine ⟨⟨_,rfl,aM⟩,?_⟩|refine ⟨⟨_,rfl,aR.of_eq (by (rw [er ag ag];congr 1;simp only;omega))⟩,?_⟩)) a7 (by show 2+m<3+m;omega)
 have az:j<l.length:=by simpa using az
 obtain ⟨p,aE,fc⟩:=cf (f:=bb) az;have abb:=UG p (d6 aE);unfold bb at fc;obtain ⟨g,au⟩:∃ g,g=fun k=>f k||(f (3+m)&&(l.take j).contains (k:Int)):=⟨_,rfl⟩
 have UH:g (3+m)=f (3+m):=by rw [au];simp only;cases f (3+m)<;>simp
 have Ly:∀ k,(f k||(f (3+m)&&(l.take (j+1)).contains (k:Int)))=if k=p.toNat then (g p.toNat||f (3+m)) else g k:=fun k=>by
  rw [UE aE,au];simp only;by_cases e:k=p.toNat
  ·subst e
   rw [f9 C,show ((p.toNat:Nat):Int)==p by simp;omega];cases f p.toNat<;>cases f (3+m)<;>simp
  ·rw [f0 e,show ((k:Int)==p)=false by rw [beq_eq_false_iff_ne];omega,ak5]
 rw [← au] at I ⊢;refine ej ?_;refine aa.gi aj p.toNat C C C C C C C C C ag ag ?_;obtain ⟨v,ar⟩:∃ v,v=g p.toNat:=⟨_,rfl⟩;refine aa.k2 aj I C C C C C C aV C (v := .bool v) (by rw [ar,ah2];exact z7 g ag) ?_;cases v with
 | true=>
  refine dT ?_;refine aa.gi aj p.toNat C C C C C C C C C ag ag ?_;refine aa.lY aj I (mA (3+w.ps.length) fun k=>f k||(f (3+m)&&(l.take (j+1)).contains (k:Int))) C C C C C C C C C aV (by rw [sP];show p.toNat*1+1≤_;omega) (by rw [rj,ah2];exact Gg fun k=>by rw [Ly,← ar,Bool.true_or]) (fun I=>?_);refine hI ?_;exact bF.mk (j+1) I az cC a7 rk
 | false=>
  refine dD ?_;refine aa.gi aj (3+m) C C C C C C C C C C ag ?_;refine aa.k2 aj I C C C C C C aV C (v := .bool (f (3+m))) (by rw [← UH,ah2];exact z7 g ag) ?_;refine dD ?_;refine aa.gi aj p.toNat C C C C C C C C C ag ag ?_;refine aa.lY aj I (mA (3+w.ps.length) fun k=>f k||(f (3+m)&&(l.take (j+1)).contains (k:Int))) C C C C C C C C C aV (by rw [sP];show p.toNat*1+1≤_;omega) (by rw [rj,ah2];exact Gg fun k=>by rw [Ly,← ar,Bool.false_or]) (fun I=>?_);refine hI ?_;exact bF.mk (j+1) I az cC a7 rk
theorem UI (w:bw) (hw:fQ w) (a b:Nat) (a8:a<3+w.ps.length) (kj:b<3+w.ps.length):aU d0 144 [fw w,.int .i64 (a:Int),.int .i64 (b:Int)] (.bool (((eI w.ps).getD a 0).testBit b)):=by
 have an:=bC;refine aU.bn aj Tryz.func144 C C fun s I=>?_
 have tZ:=hw.j9;have ra:=UF w hw a a8;unfold fw fu dv bk at *;by_cases U:a=b
 ·subst U
  rw [Cs hw a8];refine dz ?_;refine aa.dW 11 C bc ?_;refine dT ?_;exact bA I
 have g1:((a:Int)==(b:Int))=false:=by rw [beq_eq_false_iff_ne];omega
 refine dz ?_;refine aa.dc 11 C g1 ?_;refine ga ?_;refine ae.cond C (fun ad=>?_) (fun ad=>?_)
 ·have ad:b=0:=by simpa using ad
  subst ad;rw [SI hw a8];refine gO ?_;exact bA I
 have ad:b≠0:=by simpa using ad
 refine j5 ?_;refine ae.cond C (fun al=>?_) (fun al=>?_)
 ·have al:a<3:=by simp at al;omega
  have:((eI w.ps).getD a 0).testBit b=false:=by
   rw [ae9];intro h;have:=Ct al h;omega
  rw [this];refine gO ?_;exact bA I
 have jP:=z7 (n:=3+w.ps.length) (vF w a) kj;refine di ?_;rw [← Fw hw a8 ag];exact bA I
theorem UJ (w:bw) (hw:fQ w) (c bx o:Nat) (aF:c<3+w.ps.length) (ah:w.owner[bx]? = some (o:Int)):aU d0 182 [fw w,.int .i64 (c:Int),.int .i64 (bx:Int)] (.bool (((eI w.ps).getD c 0).testBit o)):=by
 have an:=bC;refine aU.bn aj Tryz.func182 C C fun s I=>?_
 have tZ:=hw.j9;have pZ:=hw.own _ (d6 ah);have t':=UI w hw c o aF ag;have ad:(w.owner.map bb)[bx]? = some (.int .i64 (o:Int)):=by simp [ah,bb]
 unfold fw fu dv bk at *;by_cases al:c<3
 ·have:((eI w.ps).getD c 0).testBit o=false:=by
   rw [ae9];intro h;have:=Ct al h;omega
  rw [this];have bd:decide ((c:Int)≥3)=false:=by simp;omega
  refine cD ?_;refine aL.split 9 C (fun h=>by rw [bd] at h;cases h) (fun _=>?_);refine ht ?_;exact bA I
 have bd:decide ((c:Int)≥3)=true:=by simp;omega
 refine cD ?_;refine aL.split 9 C (fun h=>?_) (fun h=>by rw [bd] at h;cases h);refine di ?_;exact bA I
theorem Lz:∀ (l:List e3) (i:Nat) (c:e3),eQ i (l++[c])=eQ i l++t6 c.bj.length (((i+l.length:Nat):Int)+3)
  | [],i,c=>by simp [eQ]
  | x::r,i,c=>by
    rw [t8,eQ,Lz r (i+1) c,eQ,ae6];congr 3;rw [i7];omega
theorem LA {l:List e3} {j:Nat} {c:e3} (h:l[j]? = some c):eQ 0 (l.take (j+1))=eQ 0 (l.take j)++t6 c.bj.length ((j:Int)+3):=by
 rw [js h,Lz];have:=re h;rw [ac9,ak1 ag,ad8]
theorem LB (l:List e3) (j:Nat):(eQ 0 (l.take j)).length≤(eQ 0 l).length:=by
 have key:∀ (l:List e3) (i j:Nat),(eQ i (l.take j)).length≤(eQ i l).length:=by
  intro l
  induction l with
  | nil=>intro i j;simp [eQ]
  | cons c r aX=>
   intro i j;cases j with
   | zero=>simp [eQ]
   | succ j=>
    rw [List.take_succ_cons,eQ,eQ,d9,d9];have:=aX (i+1) j;omega
 exact key l 0 j
theorem LC (p:bK) (aE:fD p) (ah:(eQ 0 p.bT).length<bt):aU d0 147 [cW p] (fw (b3 p)):=by
 have an:=bC;refine aU.bn aj Tryz.func147 C C fun s I=>?_
 have U:=Lu p aE;have cu:=aE.cls;unfold fw fu b3;simp only;unfold cW cV at *;unfold dv at *
 repeat (first|(refine B' ?_)|refine aa.jE I C C C C C C (fun b I=>?_)|refine aa.dO aj I C C C C C C C (fun cy I=>?_)|(refine RY I ?_;clear I;intro I))
 rename_i z8 _;obtain ⟨vT,rfl⟩:∃ x,x=cy:=⟨_,rfl⟩;refine ae.vt I vT [.ay 1 ((gH p).map bk) .aZ,.ay 1 [] .nil] .here (.cons aM (.one (aR.nil hh))) (fun I=>?_);refine ae.ik I 3 1 0 fun I=>?_
 refine ae.cl [2,3,10,11] C I (σ:=Nat×bN) (fun q=>[(12,.int .i64 (q.1:Int))]) (fun q=>[(.own vT,.box 62 [.ay 1 ((gH p).map bk) .aZ,.ay 1 ((eQ 0 (p.bT.take q.1)).map bb) q.2]),(q.2,.row 3 1 (eQ 0 (p.bT.take q.1)).length),(.own z8,.box 62 [.ay 0 [] .nil,.ay 0 [] .nil])])
  (fun q=>q.1≤p.bT.length) (fun q=>p.bT.length-q.1) (0,.nil) (g9 _) (cI C) a7 ?_
 rintro ⟨j,tn⟩ aO I;simp only at aO I ⊢;refine hQ ?_;refine ae.cond C (fun az=>?_) (fun a'=>?_);rotate_left
 ·have a':j=p.bT.length:=by simp at a';omega
  subst a';rw [ac'] at I ⊢;refine cm I ?_;intro I;exact Fin.cL I (pc C C (bl.get aV I) C) (aR.agg (.cons aM (.one aR.aZ)))
 have az:j<p.bT.length:=by simpa using az
 obtain ⟨c,ax,da⟩:=cf (f:=gI) az;have hp:=(aE.each c (d6 ax)).2.1;have aK:=LA ax;have hle:=LB p.bT (j+1);have iP:aa' .i64 ((j:Int)+3)=(j:Int)+3:=er ag ag;rw [aK,d9,ad'] at hle;generalize eQ 0 (p.bT.take j)=os at I aK hle ⊢;unfold gI lv bk at da
 repeat (first|(refine B8 I ?_;clear I;intro I)|refine aa.dO aj I rfl rfl rfl rfl rfl rfl rfl (fun cy I=>?_))
 refine ae.cl [2,3,4,10,11,12,18,19] C I (σ:=Nat×bN) (fun q=>[(20,.int .i64 (q.1:Int))]) (fun q=>[(.own vT,.box 62 [.ay 1 ((gH p).map bk) .aZ,.ay 1 ((os++t6 q.1 ((j:Int)+3)).map bb) q.2]),(q.2,.row 3 1 (os++t6 q.1 ((j:Int)+3)).length),(.own z8,.box 62 [.ay 0 [] .nil,.ay 0 [] .nil])])
  (fun q=>q.1≤c.bj.length) (fun q=>c.bj.length-q.1) (0,tn) (g9 _) (cI C) (by simp only [as',d8];exact a7) ?_
 rintro ⟨k,b2⟩ aD I;simp only at aD I ⊢;refine ck ?_;refine ae.cond C (fun cU=>?_) (fun et=>?_);rotate_left
 ·have et:k=c.bj.length:=by simp at et;omega
  subst et;rw [← aK] at I ⊢;refine bG ?_;exact bF.mk (j+1,b2) I az cC a7 xE
 have cU:k<c.bj.length:=by simpa using cU
 have gW:(os++t6 k ((j:Int)+3)).length=os.length+k:=by simp
 have Gh:(os++t6 (k+1) ((j:Int)+3)).map bb=(os++t6 k ((j:Int)+3)).map bb++[.int .i64 (aa' .i64 ((j:Int)+3))]:=by rw [iP,am6,← ae6,ac2];rfl
 have Gi:(os++t6 (k+1) ((j:Int)+3)).length=(os++t6 k ((j:Int)+3)).length+1:=by simp;omega
 refine cm I ?_;intro I;refine aa.gq aj I C C C C C C C ef C C C C C C C C aV bc kX ag (fun eJ I=>?_);refine ha I ?_;intro I;exact bF.mk (k+1,.own eJ) I cU (by repeat (first|exact trivial|refine ⟨⟨_,rfl,aM⟩,?_⟩|refine ⟨⟨_,rfl,aR.of_eq (by (first|rw [kV ag]))⟩,?_⟩)) (by simp only [Gi,Gh];exact a7) CD
theorem LD (n:Int):aU d0 183 [.int .i64 n] (.bool (j8 n)):=by
 have an:=bC;refine aU.bn aj Tryz.func183 C C fun s I=>?_
 repeat' (first|(with_reducible first|apply ae.seq|apply b0|apply ae.ret)|refine c1 C ?_|refine ae.cA ?_|refine aa.nil ?_|refine cx C ?_|refine aa.skip C C C ?_|(fail_if_success refine aa.same true C ?_);(fail_if_success refine aa.same false C ?_);refine aa.hq C C (fun h=>?_) (fun h=>?_))
 all_goals (refine Fin.cL I C (aR.of_eq (ac5 af.bool ?_));clear I;unfold j8;grind)
theorem LF (p:bK) (aE:fD p):aU d0 88 [cW p] (dv (gH p)):=by
 have an:=bC;refine aU.bn aj Tryz.func88 C C fun s I=>?_
 have cu:=aE.cls;obtain ⟨xs,ek⟩:∃ xs:Nat→List af,∀ j,xs j=((p.bT.take j).map e3.parents).map bk:=⟨_,fun _=>rfl⟩;have bo:xs 0=[]:=by rw [ek];rfl
 have hN:∀ j,(xs j).length≤p.bT.length:=fun j=>by
  rw [ek,f5,f5];exact ai1 _ _
 unfold dv cW cV gH;refine hs ?_;refine ae.ik I 23 1 0 fun I=>?_
 refine ae.cl [1] C I (σ:=Nat×bN) (fun q=>[(4,.int .i64 (q.1:Int)),(3,.ay 1 (xs q.1) q.2)]) (fun q=>[(q.2,.row 23 1 (xs q.1).length)]) (fun q=>q.1≤p.bT.length) (fun q=>p.bT.length-q.1) (0,.nil) (g9 _) ⟨⟨_,rfl,aM⟩,⟨_,rfl,by rw [bo];exact aR.nil hh⟩,trivial⟩ (by rw [bo];exact aH.ez _) ?_;rintro ⟨j,own⟩ aO I;simp only at aO I ⊢;refine ck ?_;refine ae.cond C (fun az=>?_) (fun a'=>?_);rotate_left
 ·have a':j=p.bT.length:=by simp at a';omega
  subst a';have he:xs p.bT.length=(p.bT.map e3.parents).map bk:=by rw [ek,ac']
  rw [he];refine eH ?_;exact Fin.cL I C aR.aZ
 have az:j<p.bT.length:=by simpa using az
 obtain ⟨c,ax,da⟩:=cf (f:=gI) az;have ao:=ek (j+1);rw [js ax,ac2,ac2,← ek] at ao;have ao:xs (j+1)=xs j++[.ay 1 (c.parents.map bb) .aZ]:=ao;have dj:(xs (j+1)).length=(xs j).length+1:=by rw [ao];simp
 have nq:=hN j;have ig:=(aE.each c (d6 ax)).1;unfold gI lv bk at *;refine ej ?_;refine aa.q2 aj C C C C C C C ef C C C (.inl C) (.inr C) C (Ga _) F4 vN (.inl C) ?_;rw [d7];refine dD ?_;refine aa.gq aj I C C C C C C C ef C C C C C C C C aV h7 pa ag (fun b2 I=>?_);refine hI ?_;refine bF.mk (j+1,.own b2) I az o9 F5 xE
theorem LG (p:bK) (aE:fD p) (ah:(eQ 0 p.bT).length<bt):aU d0 36 [cW p] (fw (b3 p)):=by
 have an:=bC;refine aU.bn aj Tryz.func36 C C fun s I=>?_
 have U:=LF p aE;have cu:=aE.cls;unfold fw fu b3;simp only;unfold cW cV at *;unfold dv at *
 repeat (first|(refine RZ I ?_;clear I;intro I)|refine aa.dO aj I rfl rfl rfl rfl rfl rfl rfl (fun cy I=>?_)|(refine oi ?_))
 rename_i z8 _;obtain ⟨vT,rfl⟩:∃ x,x=cy:=⟨_,rfl⟩;refine ae.vt I vT [.ay 1 ((gH p).map bk) .aZ,.ay 1 [] .nil] .here (.cons aM (.one (aR.nil hh))) (fun I=>?_);refine ae.ik I 3 1 0 fun I=>?_
 refine ae.cl [1,2,3] C I (σ:=Nat×bN) (fun q=>[(4,.int .i64 (q.1:Int))]) (fun q=>[(.own vT,.box 62 [.ay 1 ((gH p).map bk) .aZ,.ay 1 ((eQ 0 (p.bT.take q.1)).map bb) q.2]),(q.2,.row 3 1 (eQ 0 (p.bT.take q.1)).length),(.own z8,.box 62 [.ay 0 [] .nil,.ay 0 [] .nil])])
  (fun q=>q.1≤p.bT.length) (fun q=>p.bT.length-q.1) (0,.nil) (g9 _) (cI C) a7 ?_
 rintro ⟨j,tn⟩ aO I;simp only at aO I ⊢;refine ck ?_;refine ae.cond C (fun az=>?_) (fun a'=>?_);rotate_left
 ·have a':j=p.bT.length:=by simp at a';omega
  subst a';rw [ac'] at I ⊢;refine cm I ?_;intro I;exact Fin.cL I (pc C C (bl.get aV I) C) (aR.agg (.cons aM (.one aR.aZ)))
 have az:j<p.bT.length:=by simpa using az
 obtain ⟨c,ax,da⟩:=cf (f:=gI) az;have hp:=(aE.each c (d6 ax)).2.1;have aK:=LA ax;have hle:=LB p.bT (j+1);have iP:aa' .i64 ((j:Int)+3)=(j:Int)+3:=er ag ag;rw [aK,d9,ad'] at hle;generalize eQ 0 (p.bT.take j)=os at I aK hle ⊢;unfold gI lv bk at da;refine j5 ?_;refine ae.cl [1,2,3,4] C I (σ:=Nat×bN) (fun q=>[(5,.int .i64 (q.1:Int))]) (fun q=>[(.own vT,.box 62 [.ay 1 ((gH p).map bk) .aZ,.ay 1 ((os++t6 q.1 ((j:Int)+3)).map bb) q.2]),(q.2,.row 3 1 (os++t6 q.1 ((j:Int)+3)).length),(.own z8,.box 62 [.ay 0 [] .nil,.ay 0 [] .nil])])
  (fun q=>q.1≤c.bj.length) (fun q=>c.bj.length-q.1) (0,tn) (g9 _) (cI C) (by simp only [as',d8];exact a7) ?_
 rintro ⟨k,b2⟩ aD I;simp only at aD I ⊢;refine ej ?_;refine ae.cond C (fun cU=>?_) (fun et=>?_);rotate_left
 ·have et:k=c.bj.length:=by simp at et;omega
  subst et;rw [← aK] at I ⊢;refine bG ?_;exact bF.mk (j+1,b2) I az cC a7 xE
 have cU:k<c.bj.length:=by simpa using cU
 have gW:(os++t6 k ((j:Int)+3)).length=os.length+k:=by simp
 have Gh:(os++t6 (k+1) ((j:Int)+3)).map bb=(os++t6 k ((j:Int)+3)).map bb++[.int .i64 (aa' .i64 ((j:Int)+3))]:=by rw [iP,am6,← ae6,ac2];rfl
 have Gi:(os++t6 (k+1) ((j:Int)+3)).length=(os++t6 k ((j:Int)+3)).length+1:=by simp;omega
 refine cm I ?_;intro I;refine aa.gq aj I C C C C C C C ef C C C C C C C C aV bc kX ag (fun eJ I=>?_);refine ha I ?_;intro I;exact bF.mk (k+1,.own eJ) I cU (by repeat (first|exact trivial|refine ⟨⟨_,rfl,aM⟩,?_⟩|refine ⟨⟨_,rfl,aR.of_eq (by (first|rw [kV ag]))⟩,?_⟩)) (by simp only [Gi,Gh];exact a7) CD
def sQ (p:bK) (x:hX):Int:=
 if x.op=5 then (if 0≤x.n∧x.n<(p.cR.length:Int) then p.cR.getD x.n.toNat 0 else -1) else (rb p x).getD (-1)
theorem UK (p:bK) (next:Bool) (x:hX) (size:Int):xu p next x size=(decide ((x.kids.length:Int)=sQ p x)&&(mv p x size&&(decide (x.op≠18)||next))):=by
 unfold xu;cases aA:mv p x size with
 | false=>simp
 | true=>
  have aD:(rb p x==some (x.kids.length:Int))=decide ((x.kids.length:Int)=sQ p x):=by
   rw [ad1,aj1,g8];unfold sQ;split
   ·rename_i bB
    have aC:0≤x.n∧x.n<(p.cR.length:Int):=by
     unfold mv at aA;rw [f0 ag,f0 ag,f0 ag,f0 ag,f9 bB] at aA;simpa using aA
    rw [f9 aC];unfold rb;rw [f9 bB,Option.some.injEq];exact eq_comm
   ·cases aD:rb p x with
    | none=>simp
    | some k=>simp;exact eq_comm
  rw [aD,f4];cases next<;>cases decide ((x.kids.length:Int)=sQ p x)<;>simp
theorem LH {Q:List Int→Prop} {g:Int→Int→List Int→Option (List Int)} (isLet:Bool) (size:Int) (bo:0≤size) (au:∀ k s out o,0≤s→Q out→g k s out=some o→Q o) :
    ∀ (ks:List Int) (i:Nat) (out o:List Int),Q out→k0 g isLet size i ks out=some o→Q o
  | [],i,out,o,bp,h=>by rw [k0] at h;cases h;exact bp
  | k::r,i,out,o,bp,h=>by
    rw [k0] at h;cases aD:g k (if isLet&&i==1 then size+1 else size) out with
    | none=>rw [aD] at h;cases h
    | some rq=>
      rw [aD] at h;exact LH isLet size bo au r (i+1) rq o (au k _ out rq (by split<;>omega) bp aD) h
theorem Gj {p:bK} {next:Bool} {Q:List Int→Prop} (LI:∀ (n:Nat) (size:Int) out,0≤size→Q out→Q (out.set n size)):∀ (f:Nat) (n size:Int) (out o:List Int),0≤size→Q out→visitM p next f n size out=some o→Q o
  | 0,_,_,_,_,_,_,h=>by rw [visitM] at h;cases h
  | f+1,n,size,out,o,bo,bp,h=>by
    rw [visitM] at h;split at h
    · split at h
      · exact LH _ size bo (fun k s out o ao bp h=>Gj LI f k s out o ao bp h) _ 0 _ o (LI _ _ _ bo bp) h
      · cases h
    · cases h
theorem ql {p:bK} {next:Bool} {f:Nat} {n size:Int} {out o:List Int} (bo:0≤size) (h:visitM p next f n size out=some o):o.length=out.length:=
 Gj (Q:=fun l=>l.length=out.length) (fun n s l _ aB=>by rw [List.length_set];exact aB) f n size out o bo C h
theorem LJ {p:bK} {next:Bool} {f:Nat} {n size:Int} {out o:List Int} (bo:0≤size) (bp:∀ x∈out,-1≤x) (h:visitM p next f n size out=some o):∀ x∈o,-1≤x:=
 Gj (Q:=fun l=>∀ x∈l,(-1:Int)≤x) (fun n s l ao aB x ab=>by
  rcases List.mem_or_eq_of_mem_set ab with h|h
  ·exact aB x h
  ·omega) f n size out o bo bp h
theorem UL (k:Int):aU d0 139 [.int .i64 k] (.bool (sJ k)):=by
 have an:=bC;refine aU.bn aj Tryz.func139 C C fun s I=>?_
 repeat' (first|(with_reducible first|apply ae.seq|apply b0|apply ae.ret)|refine c1 C ?_|refine ae.cA ?_|refine aa.nil ?_|refine cx C ?_|refine aa.skip C C C ?_|(fail_if_success refine aa.same true C ?_);(fail_if_success refine aa.same false C ?_);refine aa.hq C C (fun h=>?_) (fun h=>?_))
 all_goals (refine Fin.cL I C (aR.of_eq (ac5 af.bool ?_));clear I;unfold sJ;grind)
theorem UM (p:bK) (aE:fD p) (x:hX) (size:Int):aU d0 185 [cW p,gj x,.int .i64 size] (.bool (mv p x size)):=by
 have an:=bC;refine aU.bn aj Tryz.func185 C C fun s I=>?_
 have cu:=aE.cls;have U:=LD x.n;have eg:aa' .i64 (3+((p.bT.map gI).length:Int))=3+(p.bT.length:Int):=by rw [f5,er ag ag]
 unfold cW cV gj kA bk at *
 repeat' (first|(with_reducible first|apply ae.seq|apply b0|apply fW|apply fz|apply hr|apply ae.ret|apply ae.skip|apply ae.block)|refine c1 C ?_|refine ae.cA ?_|refine aa.nil ?_|refine cx C ?_|refine aa.skip C C C ?_|refine aa.dX C C C C C cq ?_|(fail_if_success refine aa.same true C ?_);(fail_if_success refine aa.same false C ?_);refine aa.hq C C (fun h=>?_) (fun h=>?_)|refine ae.cond C (fun h=>?_) (fun h=>?_))
 all_goals (refine Fin.cL I C (aR.of_eq (ac5 af.bool ?_));clear I U cu;unfold mv;simp only [f5] at *;first|grind|(rw [f0 (by grind),f0 (by grind),f0 (by grind),f0 (by grind),f0 (by grind)];grind))
theorem UN (o:Int):(o=1∨o=2∨o=3∨o=6∨o=18∨o=4∨o=8∨o=17∨o=7∨o=9∨o=11∨o=12∨o=13∨o=14∨o=15∨o=16∨o=10)∨o=5∨(∀ k:Int,(k=1∨k=2∨k=3∨k=6∨k=18∨k=4∨k=8∨k=17∨k=7∨k=9∨k=11∨k=12∨k=13∨k=14∨k=15∨k=16∨k=10∨k=5)→(o==k)=false):=by
 by_cases h:o=5
 ·exact .inr (.inl h)
 ·by_cases ad:(o=1∨o=2∨o=3∨o=6∨o=18∨o=4∨o=8∨o=17∨o=7∨o=9∨o=11∨o=12∨o=13∨o=14∨o=15∨o=16∨o=10)
  ·exact .inl ad
  ·refine .inr (.inr fun k aD=>?_)
   rw [beq_eq_false_iff_ne];omega
theorem UO (p:bK) (x:hX):aU d0 184 [cW p,gj x] (.int .i64 (sQ p x)):=by
 have an:=bC;refine aU.bn aj Tryz.func184 C C fun s I=>?_
 obtain ⟨op,n,kids⟩:=x;unfold gj kA cW cV;simp only;rcases UN op with h|rfl|h
 ·rcases h with rfl|rfl|rfl|rfl|rfl|rfl|rfl|rfl|rfl|rfl|rfl|rfl|rfl|rfl|rfl|rfl|rfl
  all_goals
   (repeat (first|(with_reducible first|apply ae.seq|apply b0|apply fW|apply fz|apply hr|apply ae.ret|apply ae.skip|apply ae.block)|refine c1 C ?_|refine ae.fL C ?_|refine ae.gA C ?_ ));exact Fin.cL I C (aR.of_eq C)
 ·unfold sQ
  simp only [ae2];unfold bk;by_cases bo:0≤n;rotate_left
  ·rw [f0 (fun h=>bo h.1)]
   (repeat (first|(with_reducible first|apply ae.seq|apply b0|apply fW|apply fz|apply hr|apply ae.ret|apply ae.skip|apply ae.block)|refine c1 C ?_|refine ae.fL C ?_|refine ae.gA C ?_ ));refine j6 ?_;refine aa.dc 33 C cO ?_;refine bG ?_;exact bA I
  by_cases U:n<(p.cR.length:Int);rotate_left
  ·rw [f0 (fun h=>U h.2)]
   (repeat (first|(with_reducible first|apply ae.seq|apply b0|apply fW|apply fz|apply hr|apply ae.ret|apply ae.skip|apply ae.block)|refine c1 C ?_|refine ae.fL C ?_|refine ae.gA C ?_ ));refine j6 ?_;refine aa.dW 33 C cO ?_;refine ga ?_;refine ae.cond C (fun h=>by simp at h;omega) (fun _=>?_);refine bG ?_;exact bA I
  rw [f9 ⟨bo,U⟩];obtain ⟨q,rfl⟩:∃ q:Nat,n=q:=⟨n.toNat,by omega⟩;obtain ⟨y,ax,da⟩:=cf (f:=bb) (l:=p.cR) (j:=q) ag;rw [ac3,d5,ax,ae7];unfold bb at da
  (repeat (first|(with_reducible first|apply ae.seq|apply b0|apply fW|apply fz|apply hr|apply ae.ret|apply ae.skip|apply ae.block)|refine c1 C ?_|refine ae.fL C ?_|refine ae.gA C ?_ ));skip;refine ae.cond C (fun _=>?_) (fun h=>by simp at h;omega);refine bG ?_;exact bA I
 ·have aD:sQ p ⟨op,n,kids⟩ = -1:=by
   have bB:op≠5:=by have:=h 5 bc;rwa [beq_eq_false_iff_ne] at this
   unfold sQ rb;simp only;have ne:=fun k aD=>beq_eq_false_iff_ne.1 (h k aD)
   rw [f0 bB,f0 bB];rw [f0 (by have:=ne 1 bc;have:=ne 2 bc;have:=ne 3 bc;have:=ne 6 bc;have:=ne 18 bc;omega)];rw [f0 (by have:=ne 4 bc;have:=ne 8 bc;have:=ne 17 bc;omega)];rw [f0 (by have:=ne 7 bc;have:=ne 9 bc;have:=ne 11 bc;have:=ne 12 bc;have:=ne 13 bc;have:=ne 14 bc;have:=ne 15 bc;have:=ne 16 bc;omega)];rw [f0 (by have:=ne 10 bc;omega)];rfl
  rw [aD]
  (repeat (first|(with_reducible first|apply ae.seq|apply b0|apply fW|apply fz|apply hr|apply ae.ret|apply ae.skip|apply ae.block)|refine c1 C ?_|refine ae.fL C ?_|refine ae.gA C ?_|refine ae.cond C (fun c6=>absurd (c6.symm.trans (h _ bc)) bc) (fun _=>?_)));exact bA I
structure sR (w:bw) (bf:List ev):Prop where
 j9:bf.length≤40
 each:∀ o∈bf,(3≤o.cls∧o.cls<3+(w.ps.length:Int))∧o.bj.length=(nC w (oq w o.cls)).length∧∀ v∈o.bj,hj bf.length v=true
theorem sR.of {w:bw} {bf:List ev} (h:zx w bf=true):sR w bf:=by
 unfold zx at h;rw [f6,g8,ae'] at h;refine ⟨h.1,fun o ah=>?_⟩;have:=h.2 o ah;unfold zw xp at this;simp only [f6,g8,ae'] at this;exact ⟨⟨by omega,by omega⟩,this.2.1,this.2.2⟩
theorem Gk {n:Int} {v:Int×Int} (h:hj n v=true) (al:v.1=3):0≤v.2∧v.2<n:=by
 unfold hj at h;rw [al] at h;simp at h;omega
theorem LK {n:Int} {v:Int×Int} (h:hj n v=true):v.1=1∨v.1=2∨v.1=3:=by
 unfold hj at h;grind
theorem LL (w:bw) (m s:Nat) (ao:s<w.owner.length) (an:m.testBit (w.owner.getD s 0).toNat=true):∃ k,(nC w m).findIdx? (· == (s:Int))=some k∧k<(nC w m).length:=by
 have fV:(s:Int)∈nC w m:=ad2.2 ⟨s,List.mem_filter.2 ⟨List.mem_range.2 ao,an⟩,rfl⟩;cases h:(nC w m).findIdx? (· == (s:Int)) with
 | none=>
  rw [List.findIdx?_eq_none_iff] at h;have:=h _ fV;simp at this
 | some k=>
  rw [List.findIdx?_eq_some_iff_getElem] at h;exact ⟨k,rfl,h.1⟩
def atR (r:Option (Int×Int)):af := .cg [fK (r.getD (0,0)),.bool r.isSome]
theorem UP (w:bw) (hw:fQ w) (bf:List ev) (ah:sR w bf) (v:Int×Int) (ar:hj bf.length v=true) (path:List Int) (aE:∀ s∈path,0≤s∧s<(w.owner.length:Int)) (ig:path.length<bt) :
  aU d0 172 [fR w,hb bf,fK v,bk path] (atR (p' w bf v path)):=by
 have an:=bC;have qk:=hw.j9;have j2:=sG w.ps;refine aU.bn aj Tryz.func172 C C fun s I=>?_
 have dj:=fun c aF=>Lr w hw c aF
 have m7:=fun c s m o aF hm hx ao ah=>Li w (z6 w) c s m o aF hm hx ao ah
 unfold fK bk;unfold fR e1 at *
 repeat (first|(refine B' ?_)|refine aa.jE I C C C C C C (fun b I=>?_)|refine aa.dO aj I C C C C C C C (fun cy I=>?_)|(refine Ca ?_))
 refine ae.cl [0,1,8,12,13] C I (σ:=Nat×(Int×Int)) (fun j=>[(14,.int .i64 (j.1:Int)),(6,.ptr b 0)]) (fun j=>[(.own b,.box 122 [.int .i64 j.2.1,.int .i64 j.2.2]),(.own cy,.box 122 [.int .i64 0,.int .i64 0])]) (fun j=>j.1≤path.length∧p' w bf v path=p' w bf j.2 (path.drop j.1)∧hj bf.length j.2=true) (fun j=>path.length-j.1) (0,v) ⟨g9 _,rfl,ar⟩ (cI C) a7 ?_;rintro ⟨j,u⟩ ⟨aO,aw,hu⟩ I;simp only at aO aw hu I ⊢;refine ck ?_;refine ae.cond C (fun az=>?_) (fun a'=>?_);rotate_left
 ·have a':path.length≤j:=by simpa using a'
  rw [eR a',p'] at aw;rw [aw];refine cm I ?_;intro I;exact Fin.cL I (zr C C (bl.get aV I) C C) aM
 have az:j<path.length:=by simpa using az
 obtain ⟨x,ax,da⟩:=cf (f:=bb) az;obtain ⟨g1,g2⟩:=aE x (d6 ax);obtain ⟨bx,rfl⟩:∃ bx:Nat,x=bx:=⟨x.toNat,by omega⟩;rw [drop_cons ax,p'] at aw;unfold bb at da;obtain ⟨r7,r8⟩:=u
 try simp only at aw
 refine cm I ?_;intro I;by_cases al:r7=3;rotate_left
 ·rw [f9 al] at aw
  refine aa.dW 21 C (by simpa using al) ?_;refine cm I ?_;intro I;rw [aw];exact Fin.cL I (zr C C (bl.get aV I) C C) aM
 obtain ⟨cv,db⟩:=Gk hu al;subst al;rw [f0 bc] at aw;simp only at cv db;obtain ⟨q,rfl⟩:∃ q:Nat,r8=q:=⟨r8.toNat,by omega⟩;obtain ⟨o,bp,uK⟩:=cf (f:=iG) (l:=bf) (j:=q) ag;have y8:bf.getD ((q:Int)).toNat default=o:=by rw [ac3,d5,bp];rfl
 obtain ⟨⟨mB,hk⟩,vU,vV⟩:=ah.each o (d6 bp);rw [y8] at aw;obtain ⟨cls,bj⟩:=o;simp only at mB hk vU vV aw;obtain ⟨c,rfl⟩:∃ c:Nat,cls=c:=⟨cls.toNat,by omega⟩;obtain ⟨m,hm⟩:∃ m,(eI w.ps)[c]? = some m:=⟨_,f8 ag⟩;have oD:oq w (c:Int)=m:=by unfold oq;rw [ac3,d5,hm];rfl
 have hx:=xn qk m (d6 hm);obtain ⟨oE,pZ⟩:∃ oE,w.owner[bx]? = some oE:=⟨_,f8 ag⟩;obtain ⟨rq,b2⟩:=hw.own oE (d6 pZ);obtain ⟨o,rfl⟩:∃ o:Nat,oE=o:=⟨oE.toNat,by omega⟩;have U:=m7 c bx m o ag (xo hm) hx pZ ag;have j3:(w.owner.getD ((bx:Int)).toNat 0).toNat=o:=by rw [ac3,d5,pZ];simp
 have UQ:(w.owner.getD bx 0).toNat=o:=by rw [d5,pZ];simp
 rw [oD,j3] at aw;rw [oD] at vU;unfold iG at uK;refine aa.dc 21 C bc ?_;cases qm:m.testBit o with
 | false=>
  rw [qm,f0 bc] at aw;rw [qm] at U;refine cm I ?_;intro I;rw [aw];exact Fin.cL I (zr C C (bl.get aV I) C C) aM
 | true=>
  rw [qm,f9 C] at aw;rw [qm] at U;have ad:=dj c ag;have UR:(eI w.ps).getD c 0=m:=by rw [d5,hm];rfl
  rw [UR] at ad;obtain ⟨k,lK,ie⟩:=LL w m bx ag (by rw [UQ];exact qm);have hlen:(nC w m).length<bt:=by
   have:(nC w m).length≤w.owner.length:=by
    unfold nC;rw [f5];exact al5 (aj0 _ _) bc
   have:=hw.bj;omega
  have bd:=Kq (nC w m) bx hlen;rw [lK] at bd;simp only at bd;obtain ⟨y,w3,US⟩:=cf (f:=fK) (l:=bj) (j:=k) ag;have z':bj.getD k (0,0)=y:=by rw [d5,w3];rfl
  rw [lK,ae7,z'] at aw;unfold fK at US;unfold bk at ad bd;refine ha I ?_;intro I;exact bF.mk (j+1,y) I ⟨az,aw,vV y (d6 w3)⟩ cC a7 (by show path.length-(j+1)<path.length-j;omega)
theorem LM {α:Type}:∀ {l:List α},l.length=2→∃ a b,l=[a,b]
 | [a,b],_=>⟨a,b,rfl⟩
structure xL (w:bw) (f:aq):Prop where
 arg:0≤f.arg∧f.arg<3
 path:f.path.length≤2
 bj:∀ s∈f.path,0≤s∧s<(w.owner.length:Int)
 cls:f.op=2→0≤f.cls∧f.cls<3+(w.ps.length:Int)
theorem xL.of {w:bw} {f:aq} (h:hi w f=true) (aB:f.c7=true):xL w f:=by
 simp only [hi,aB,ae2,f6,g8,ae'] at h;obtain ⟨U,ad,al,bd,bB,gN,hn,pq⟩:=h;refine ⟨⟨by omega,bB⟩,gN,fun s ao=>by have:=hn s ao;simpa using this,fun ad=>?_⟩;rw [f9 ad] at pq;simp only [f6,g8] at pq;omega
theorem CL {w:bw} {f:aq} (h:hi w f=true):(f.op=1∧f.kids=[])∨(f.c7=true∧f.kids=[]∧(f.op=2∨f.op=3∨f.op=4))∨(f.op=5∧∃ x,f.kids=[x])∨((f.op=6∨f.op=7)∧∃ x y,f.kids=[x,y]):=by
 have bo:=h;simp only [hi,f6,g8] at h;obtain ⟨U,ad,al,bd⟩:=h;have aF:f.op=1∨(f.op=2∨f.op=3∨f.op=4)∨f.op=5∨f.op=6∨f.op=7:=by omega
 rcases aF with h|h|h|h|h
 ·left
  refine ⟨h,ag3 ?_⟩;rw [al,h];rfl
 ·right;left
  refine ⟨?_,ag3 ?_,h⟩
  ·unfold aq.c7;simp;omega
  ·rw [al];rcases h with h|h|h<;>rw [h]<;>rfl
 ·right;right;left
  refine ⟨h,List.length_eq_one_iff.1 ?_⟩;rw [al,h];rfl
 ·right;right;right
  refine ⟨.inl h,?_⟩;obtain ⟨a,b,ir⟩:=LM (show f.kids.length=2 by rw [al,h];rfl);exact ⟨a,b,ir⟩
 ·right;right;right
  refine ⟨.inr h,?_⟩;obtain ⟨a,b,ir⟩:=LM (show f.kids.length=2 by rw [al,h];rfl);exact ⟨a,b,ir⟩
theorem LN {w:bw} {bf:List ev} (ah:sR w bf):∀ (path:List Int) (v u:Int×Int),(∀ s∈path,0≤s∧s<(w.owner.length:Int))→hj bf.length v=true→p' w bf v path=some u→hj bf.length u=true
  | [],v,u,_,ar,h=>by rw [p'] at h;cases h;exact ar
  | s::r,v,u,aE,ar,h=>by
    rw [p'] at h
    try simp only at h
    split at h
    · cases h
    · rename_i al
      have al:v.1=3:=by omega
      obtain ⟨cv,db⟩:=Gk ar al;split at h
      · rename_i an
        have ao:=aE s i5;obtain ⟨bx,rfl⟩:∃ bx:Nat,s=bx:=⟨s.toNat,by omega⟩;have UT:bf[v.2.toNat]? = some (bf.getD v.2.toNat default):=by
          rw [d5,f8 ag];rfl
        have lL:=ah.each _ (d6 UT);rw [ac3] at an;obtain ⟨k,lK,ie⟩:=LL w _ bx ag an;rw [lK,ae7] at h;refine LN ah r _ u (fun s ao=>aE s (g7 _ ao)) ?_ h;rw [d5,f8 (by rw [lL.2.1];exact ie),ae7];exact lL.2.2 _ (List.getElem_mem _)
      · cases h
theorem UU (w:bw) (hw:fQ w) (bf:List ev) (ah:sR w bf) (args:List (Int×Int)) (a8:∀ v∈args,hj bf.length v=true) (qf:args.length≤3):∀ (n:Nat) (f:aq),f.size≤n→n<bt→gR w f=true→kY f≤args.length →
    aU d0 125 [fR w,f.cb,hb bf,kE args] (.bool (sH w bf args f)):=by
  have an:=bC;intro n
  induction n with
  | zero=>intro x h;have:=x.size_eq;omega
  | succ n aX=>
    intro f aA jB au gS;have qk:=hw.j9;have gh:=ah.j9;have j2:=sG w.ps;have iQ:=f.size_eq;have Aa:=SF w bf args f;rw [Co] at gS;rw [pd,f6] at au;obtain ⟨rp,nL⟩:=au;refine aU.bn aj Tryz.func125 C C fun s I=>?_
    rw [aq.cE];rcases CL rp with ⟨U,ad⟩|⟨aB,ad,U⟩|⟨U,x,ad⟩|⟨U,x,y,ad⟩
    · rw [Aa,U]
      unfold aq.cells;rw [U];refine bG ?_;exact bA I
    · have iz:=xL.of rp aB
      have ig:=iz.path;have dP:=fun v ar=>UP w hw bf ah v ar f.path iz.bj ag
      rw [aB,ad] at gS;simp only [ae2,iF] at gS;obtain ⟨q,bp⟩:∃ q:Nat,f.arg=q:=⟨f.arg.toNat,by have:=iz.arg;omega⟩;obtain ⟨v,ar,oU⟩:=cf (f:=fK) (l:=args) (j:=q) ag;have CM:=a8 v (d6 ar);have LO:args.getD f.arg.toNat (0,0)=v:=by rw [bp,ac3,d5,ar];rfl
      have dP:=dP v CM;have LP:sH w bf args f=tK w bf args f:=by
        rw [Aa,f0 ag,f0 ag,f0 ag,f0 ag]
      rw [LP];have cP:(f.op==1)=false:=by simp;omega
      have c9:(f.op==5)=false:=by simp;omega
      have eP:(f.op==6)=false:=by simp;omega
      have o1:(f.op==7)=false:=by simp;omega
      have m7:=fun m o hm aF=>xG m o hm aF
      unfold aq.cells;rw [bp];unfold fK at oU;unfold fK bk at dP;unfold bb at dP;unfold fR e1 at *;cases hu:p' w bf v f.path with
      | none=>
        have hle:tK w bf args f=false:=by unfold tK;rw [LO,hu]
        rw [hu] at dP;rw [hle];unfold atR fK at dP;simp only [ae7,aw',ax8,ar2] at dP;refine hs ?_;refine ae.cond C (fun h=>by rw [cP] at h;cases h) (fun _=>?_);refine ck ?_;refine ae.cond C (fun h=>by rw [c9] at h;cases h) (fun _=>?_);refine ck ?_;refine ae.cond C (fun h=>by rw [eP] at h;cases h) (fun _=>?_);refine ck ?_;refine ae.cond C (fun h=>by rw [o1] at h;cases h) (fun _=>?_)
        repeat (first|(refine R0 ?_)|refine aL.KU aj I C C C C C C C C (fun cy I=>?_)|(refine JR I ?_;clear I;intro I))
        exact bA I
      | some u=>
        have lR:=LN ah f.path v u iz.bj CM hu;obtain ⟨r7,r8⟩:=u
        have hle:tK w bf args f=(if f.op=2 then (if r7=3 then (oq w (bf.getD r8.toNat default).cls).testBit f.cls.toNat else (oq w r7).testBit f.cls.toNat)
    else decide (r7=1)&&((decide (r8=f.n)==decide (f.op=4))&&decide (r8≤f.n))):=by unfold tK;rw [LO,hu]
        rw [hu] at dP;rw [hle];unfold atR fK at dP;simp only [ae7,aw',ax8,ar2] at dP;refine hs ?_;refine ae.cond C (fun h=>by rw [cP] at h;cases h) (fun _=>?_);refine ck ?_;refine ae.cond C (fun h=>by rw [c9] at h;cases h) (fun _=>?_);refine ck ?_;refine ae.cond C (fun h=>by rw [eP] at h;cases h) (fun _=>?_);refine ck ?_;refine ae.cond C (fun h=>by rw [o1] at h;cases h) (fun _=>?_)
        repeat (first|(refine R1 ?_)|refine aL.KU aj I C C C C C C C C (fun cy I=>?_)|(refine JR I ?_;clear I;intro I))
        refine ae.cond C (fun h=>?_) (fun h=>?_)
        · have bB:f.op≠2:=by simpa using h
          rw [f0 bB]
          repeat' (first|(with_reducible first|apply ae.seq|apply b0|apply fW|apply hr|apply ae.ret)|refine ae.cA ?_|refine aa.nil ?_|refine cx C ?_|refine aa.skip C C C ?_|refine aa.ey aj I C C C C C C RU b1 ?_|(fail_if_success refine aa.same true C ?_);(fail_if_success refine aa.same false C ?_);refine aa.hq C C (fun h=>?_) (fun h=>?_))
          all_goals (refine Fin.cL I C (aR.of_eq (ac5 af.bool ?_));clear I dP aX m7 hle LP Aa hu lR;grind)
        have bB:f.op=2:=by simpa using h
        rw [f9 bB];obtain ⟨cv,db⟩:=iz.cls bB;obtain ⟨eb,cu⟩:∃ eb:Nat,f.cls=eb:=⟨f.cls.toNat,by omega⟩;rw [cu,ac3];by_cases al:r7=3
        · subst al
          obtain ⟨mB,hk⟩:=Gk lR rfl;simp only at mB hk;obtain ⟨p,rfl⟩:∃ p:Nat,r8=p:=⟨r8.toNat,by omega⟩;obtain ⟨o,aE,fc⟩:=cf (f:=iG) (l:=bf) (j:=p) ag;obtain ⟨⟨rq,b2⟩,-,-⟩:=ah.each o (d6 aE);have y8:bf.getD ((p:Int)).toNat default=o:=by rw [ac3,d5,aE];rfl
          obtain ⟨c,sS⟩:∃ c:Nat,o.cls=c:=⟨o.cls.toNat,by omega⟩;obtain ⟨m,hm⟩:∃ m,(eI w.ps)[c]? = some m:=⟨_,f8 ag⟩;have oD:oq w (c:Int)=m:=by unfold oq;rw [ac3,d5,hm];rfl
          have hx:=xn qk m (d6 hm);have uY:=m7 m eb hx ag;rw [f9 C,y8,sS,oD];unfold iG at fc;rw [sS] at fc;have jP:=zZ (w:=w) (xo hm);refine sv I ?_;intro I;refine aL.lp aj c C C C C C C C C C C ag ?_;refine aL.zK aj C C C C C C C (by simpa using jP) ?_;refine di ?_;exact bA I
        · obtain ⟨c,sS⟩:∃ c:Nat,r7=c:=⟨r7.toNat,by have:=LK lR;simp only at this;omega⟩
          subst sS;have abc:c<3:=by have:=LK lR;simp only at this;omega
          obtain ⟨m,hm⟩:∃ m,(eI w.ps)[c]? = some m:=⟨_,f8 ag⟩;have oD:oq w (c:Int)=m:=by unfold oq;rw [ac3,d5,hm];rfl
          have hx:=xn qk m (d6 hm);have uY:=m7 m eb hx ag;have jP:=zZ (w:=w) (xo hm);rw [f0 al,oD];have rr:((c:Int)==3)=false:=by simpa using al
          refine cm I ?_;intro I;refine ae.cond C (fun h=>by rw [rr] at h;cases h) (fun _=>?_);refine sv I ?_;intro I;refine aL.lp aj c C C C C C C C C C C ag ?_;refine aL.zK aj C C C C C C C (by simpa using jP) ?_;refine di ?_;exact bA I
    · have ab:=aq.iD (l:=f.kids) (x:=x) mz
      have hO:=(Cp f.kids (if f.c7 then f.arg+1 else 0)).2 x mz;have i1:=aX x ag ag (lq nL mz) ag;rw [Aa,U,ad,Cq _ _ _ 0 [x] x C];have b7:([x].map aq.cb)[0]? = some (.agg x.cells):=by rw [← aq.cE];rfl
      rw [aq.cE] at i1;unfold aq.cells;rw [U,ad];unfold fR e1 at *;refine cD ?_;exact bA I
    · have ab:=aq.iD (l:=f.kids) (x:=x) mz
      have hO:=(Cp f.kids (if f.c7 then f.arg+1 else 0)).2 x mz;have i1:=aX x ag ag (lq nL mz) ag;have ax:=aq.iD (l:=f.kids) (x:=y) tT;have c':=(Cp f.kids (if f.c7 then f.arg+1 else 0)).2 y tT;have i2:=aX y ag ag (lq nL tT) ag;have b7:([x,y].map aq.cb)[0]? = some (.agg x.cells):=by rw [← aq.cE];rfl
      have bR:([x,y].map aq.cb)[1]? = some (.agg y.cells):=by rw [← aq.cE];rfl
      rw [aq.cE] at i1 i2;unfold fR e1 at *;rcases U with U|U
      all_goals
        rw [Aa,U,ad,Cq _ _ _ 0 [x,y] x C,Cq _ _ _ 1 [x,y] y C];unfold aq.cells;rw [U,ad];refine cD ?_;cases Ab:sH w bf args x with
        | true=>
          rw [Ab] at i1;refine di ?_;exact bA I
        | false=>
          rw [Ab] at i1;refine di ?_;exact bA I
def m8 (w:bw) (f:aq) (bf:List ev) (args:List (Int×Int)):Bool×Int:=
 if il w f&&(nD w bf args&&decide (kY f≤args.length)) then (sH w bf args f,0) else (false,2)
theorem LQ {w:bw} {bf:List ev} {args:List (Int×Int)} (h:nD w bf args=true):sR w bf∧args.length≤3∧∀ v∈args,hj bf.length v=true:=by
 unfold nD at h;simp only [f6,g8,ae'] at h;exact ⟨sR.of h.1,h.2.2.1,h.2.2.2⟩
theorem Gl (w:bw) (hw:fQ w) (f:aq) (a1:f.size<bt) (bf:List ev) (args:List (Int×Int)) (aB:bf.length<bt) (ah:∀ o∈bf,o.bj.length<bt) (a8:args.length<bt):aU d0 74 [fw w,f.cb,hb bf,kE args] (.cg [.bool (m8 w f bf args).1,.int .i64 (m8 w f bf args).2]):=by
 have an:=bC;refine aU.bn aj Tryz.func74 C C fun s I=>?_
 have U:=Gf w hw [f] cO (by intro g au;rw [t7] at au;subst au;exact a1);have ad:=Um w hw bf args aB ah a8;rw [ac0,ae3,aj6,an3,am8] at U;have dQ:m8 w f bf args=if il w f&&(nD w bf args&&decide (kY f≤args.length)) then (sH w bf args f,0) else (false,2):=rfl
 cases al:il w f with
 | false=>
  rw [al,f7,f0 bc] at dQ;rw [dQ];rw [al,aq.cE] at U;rw [aq.cE];unfold fw fu dv bk at *;unfold fR e1 at *;refine cD ?_;exact bA I
 | true=>
  have au:=tJ f w 12 24 al;have bd:=Un w f.size f (i0 _) a1 au;rw [al,f4] at dQ;rw [al] at U;cases bB:nD w bf args with
  | false=>
   rw [bB,f7,f0 bc] at dQ;rw [dQ];rw [bB] at ad;rw [aq.cE] at U ⊢;unfold fw fu dv bk at *;unfold fR e1 at *;refine cD ?_;exact bA I
  | true=>
   obtain ⟨g1,g2,g3⟩:=LQ bB;rw [bB,f4] at dQ;rw [bB] at ad;by_cases gN:kY f≤args.length
   ·have hn:=UU w hw bf g1 args g3 g2 f.size f (i0 _) a1 au gN
    rw [f9 (by simpa using gN)] at dQ;rw [dQ];rw [aq.cE] at U bd hn ⊢;unfold fw fu dv bk at *;unfold fR e1 at *;refine cD ?_;refine ae.cond C (fun h=>?_) (fun _=>?_)
    ·exfalso
     simp at h;omega
    refine di ?_;exact bA I
   ·rw [f0 (by simpa using gN)] at dQ
    rw [dQ];rw [aq.cE] at U bd ⊢;unfold fw fu dv bk at *;unfold fR e1 at *;refine cD ?_;refine ae.cond C (fun h=>?_) (fun h=>?_)
    ·refine gO ?_
     exact bA I
    ·exfalso
     simp at h;omega
abbrev ch:=aq×Bool
def vW (x y:ch):Bool:=(x.2==y.2)&&aq.same x.1 y.1
theorem UW (x y:ch):vW x y=true↔x=y:=by
 obtain ⟨f,b⟩:=x;obtain ⟨g,c⟩:=y;unfold vW;simp only [f6,aj1,aq.J6,Prod.mk.injEq];exact And.comm
def qn (out:List ch) (x:ch):List ch:=if out.any (vW x) then out else out++[x]
def jt (a b:List ch):List ch:=b.foldl qn a
theorem Gm:∀ (b a:List ch),(jt a b).length≤a.length+b.length
  | [],a=>i0 _
  | x::r,a=>by
    have U:=Gm r (qn a x);have ad:(qn a x).length≤a.length+1:=by
      unfold qn;split
      · omega
      · simp
    have al:jt a (x::r)=jt (qn a x) r:=rfl;rw [al,i7];omega
theorem CN {y:ch}:∀ (b a:List ch),y∈jt a b→y∈a∨y∈b
  | [],a,h => .inl h
  | x::r,a,h=>by
    rcases CN r (qn a x) h with h|h
    · unfold qn at h
      split at h
      · exact .inl h
      · rcases ac7.1 h with h|h
        · exact .inl h
        · exact .inr (by rw [t7] at h;subst h;exact i5)
    · exact .inr (g7 _ h)
mutual
def hS (qo:Bool):aq→List (List ch)
 | .mk o a p c n ks=>
  if o=1 then (if qo then [] else [[]])
  else if o=5 then h0 (!qo) 0 ks
  else if (aq.mk o a p c n ks).c7 then [[(.mk o a p c n ks,qo)]]
  else if qo=decide (o=6) then h0 qo 0 ks++h0 qo 1 ks
  else (h0 qo 0 ks).flatMap fun x=>(h0 qo 1 ks).map (jt x)
def h0 (qo:Bool):Nat→List aq→List (List ch)
 | _,[]=>[]
 | 0,x::_=>hS qo x
 | n+1,_::r=>h0 qo n r
end
theorem sT (c:Bool):∀ (n:Nat) (l:List aq) (x:aq),l[n]? = some x→h0 c n l=hS c x
 | 0,y::r,x,h=>by rw [h0];simp at h;rw [h]
 | n+1,y::r,x,h=>by rw [h0];exact sT c n r x gT
theorem LR (b:Bool) (f:aq):hS b f=if f.op=1 then (if b then [] else [[]])
  else if f.op=5 then h0 (!b) 0 f.kids
  else if f.c7 then [[(f,b)]]
  else if b=decide (f.op=6) then h0 b 0 f.kids++h0 b 1 f.kids
  else (h0 b 0 f.kids).flatMap fun x=>(h0 b 1 f.kids).map (jt x):=by cases f;rw [hS];rfl
def LS (n:Nat) (l:List ch):Prop:=l.length≤n∧∀ x∈l,x.1.size≤n
theorem UX (f:aq):1≤f.size:=by rw [aq.size_eq];omega
mutual
theorem Gn:∀ (f:aq) (b:Bool),∀ l∈hS b f,LS f.size l
  | .mk o a p c n ks,b,l,h=>by
    rw [hS] at h;have iQ:=(aq.mk o a p c n ks).size_eq;have UY:(aq.mk o a p c n ks).kids=ks:=rfl;rw [UY] at iQ;split at h
    · split at h
      · cases h
      · rw [t7] at h;subst h;exact ⟨by simp,by simp⟩
    · split at h
      · have:=ua ks _ 0 l h
        exact ⟨by have:=this.1;omega,fun x ab=>by have:=this.2 x ab;omega⟩
      · split at h
        · rw [t7] at h;subst h
          exact ⟨UX _,fun x ab=>by rw [t7] at ab;subst ab;exact i0 _⟩
        · split at h
          · rcases ac7.1 h with h|h
            · have:=ua ks _ 0 l h
              exact ⟨by have:=this.1;omega,fun x ab=>by have:=this.2 x ab;omega⟩
            · have:=ua ks _ 1 l h
              exact ⟨by have:=this.1;omega,fun x ab=>by have:=this.2 x ab;omega⟩
          · obtain ⟨x,ab,h⟩:=List.mem_flatMap.1 h
            obtain ⟨y,ax,rfl⟩:=ad2.1 h;have U:=LU ks b x y ab ax;refine ⟨by have:=Gm y x;omega,fun z bP=>?_⟩;rcases CN y x bP with bP|bP
            · have:=(ua ks _ 0 x ab).2 z bP;omega
            · have:=(ua ks _ 1 y ax).2 z bP;omega
theorem ua:∀ (ks:List aq) (b:Bool) (n:Nat),∀ l∈h0 b n ks,LS (aq.iC ks) l
  | [],b,n,l,h=>by rw [h0] at h;cases h
  | x::r,b,0,l,h=>by
    rw [h0] at h;have:=Gn x b l h;rw [aq.iC];exact ⟨by have:=this.1;omega,fun y ax=>by have:=this.2 y ax;omega⟩
  | x::r,b,n+1,l,h=>by
    rw [h0] at h;have:=ua r b n l h;rw [aq.iC];exact ⟨by have:=this.1;omega,fun y ax=>by have:=this.2 y ax;omega⟩
theorem LU:∀ (ks:List aq) (b:Bool) (x y:List ch),x∈h0 b 0 ks→y∈h0 b 1 ks→x.length+y.length≤aq.iC ks
  | [],b,x,y,h,_=>by rw [h0] at h;cases h
  | k::r,b,x,y,h,eT=>by
    rw [sT b 0 (k::r) k C] at h;rw [show (1:Nat)=0+1 from rfl,h0] at eT;have U:=(Gn k b x h).1;have ad:=(ua r b 0 y eT).1;rw [aq.iC];omega
end
theorem LV:∀ (a b:List aq),kc aq.same a b=aq.oo a b
 | [],[]=>by rw [kc,aq.oo]
 | [],_::_=>by rw [kc,aq.oo]<;>simp
 | _::_,[]=>by rw [kc,aq.oo]<;>simp
 | x::r,y::t=>by rw [kc,aq.oo,LV r t]
theorem UZ (f g:aq):aq.same f g=(decide (f.op=g.op)&&(decide (f.arg=g.arg)&&(decide (f.cls=g.cls)&&(decide (f.n=g.n)&&(f.path==g.path&&aq.oo f.kids g.kids))))):=by
 cases f;cases g;rw [aq.same];rfl
theorem U0:∀ (n:Nat) (f g:aq),f.size≤n→n<bt→g.size<bt→aU d0 268 [f.cb,g.cb] (.bool (aq.same f g)):=by
  have an:=bC;intro n
  induction n with
  | zero=>intro x _ h;have:=x.size_eq;omega
  | succ n aX=>
    intro f g aA jB au;have U:=f.size_eq;have ad:=g.size_eq;have np:=aq.p9 f.kids;have eZ:=aq.p9 g.kids;have al:=tM f.path g.path ag ag
    have bd:=F' (.func 268 [] []) aq.same f.kids g.kids ag ag (fun x ab y ax=>ee.fa (first:=[]) (cap:=[]) (by
      have:=aq.iD ab
      have:=aq.iD ax
      exact aX x y ag ag ag))
    rw [LV] at bd;refine aU.bn aj Tryz.func268 C C fun s I=>?_
    rw [aq.cE,aq.cE,UZ];unfold bk bb at al
    repeat' (first|(with_reducible first|apply ae.seq|apply b0|apply ae.ret)|refine c1 C ?_|refine ae.cA ?_|refine aa.nil ?_|refine cx C ?_|refine aa.skip C C C ?_|refine aa.dX C C C C C cq ?_|(fail_if_success refine aa.same true C ?_);(fail_if_success refine aa.same false C ?_);refine aa.hq C C (fun h=>?_) (fun h=>?_))
    all_goals (refine Fin.cL I C (aR.of_eq (ac5 af.bool ?_));clear I al bd aX;grind)
theorem U1 (x y:ch) (ab:x.1.size<bt) (ax:y.1.size<bt):ee d0 (.func 267 [] [.bs (pj x) 0]) [hR y] (.bool (vW x y)):=by
 have an:=bC;refine ee.fa (first:=[]) (cap:=[.bs (pj x) 0]) ?_;refine aU.bn aj Tryz.func267 C C fun s I=>?_
 obtain ⟨f,b⟩:=x;obtain ⟨g,c⟩:=y;have U:=U0 f.size f g (i0 _) ab ax;rw [aq.cE,aq.cE] at U;unfold hR pj vW;simp only
 repeat' (first|(with_reducible first|apply ae.seq|apply b0|apply ae.ret)|refine c1 C ?_|refine ae.cA ?_|refine aa.nil ?_|refine cx C ?_|refine aa.skip C C C ?_|refine aa.dX C C C C C cq ?_|(fail_if_success refine aa.same true C ?_);(fail_if_success refine aa.same false C ?_);refine aa.hq C C (fun h=>?_) (fun h=>?_))
 all_goals (refine Fin.cL I C (aR.of_eq (ac5 af.bool ?_));clear I U;grind)
theorem U2 (l:List ch):∀ y∈l.map hR,iK 7 y=true:=Tw l
theorem U3 (l:List ch) (own:bN) (aB:l.length<bt):bz d0 265 [.ay 7 (l.map hR) own] [] (fun o K=>∃ c5,o = .ret (.ay 7 (l.map hR) c5)∧K=[(c5,.row 289 7 l.length)]):=by
 have an:=bC;refine bz.bn aj Tryz.func265 C C fun s I=>?_
 refine dz ?_;refine aa.op C C C (aW.vL aj C C C C (X:=fun _ _=>False)) ?_ (fun _ _ h=>False.elim h);rintro r ai ⟨rfl,⟨rfl,aA⟩|rfl⟩
 ·have me:l.length=0:=by simpa using ac5 List.length aA
  refine aa.ik I 289 7 0 fun I=>?_
  refine dT ?_;rw [aA,me];exact Fin.bu I C (aR.nil hh) (aH.all _) ⟨.nil,rfl,rfl⟩
 ·refine bG ?_
  refine aa.sK I 289 7 0 fun I=>?_
  refine aa.m1 aj I C C C C C C C ef C C C C (.inr C) C (U2 l) C .here C (n':=l.length) bc (by simp only [ae1,ad8,f5];show _*88≤_;omega) vN (fun lX I=>?_);refine dY ?_;exact Fin.bu I C aM (aH.all _) ⟨lX,rfl,rfl⟩
theorem U4 (fv:af) (xs:List ch) (T:Nat→a6) (b9:Nat→Bool) (aB:xs.length<bt) (h:∀ j x,xs[j]? = some x→(∀ i,i<j→b9 i=false)→dh d0 fv [hR x] (T j) (fun o K=>o = .ret (.bool (b9 j))∧K=T (j+1))) :
  bz d0 279 [.ay 7 (xs.map hR) .aZ,fv] (T 0)
   (fun o K=>(o = .ret (.int .i64 (-1))∧K=T xs.length∧∀ i,i<xs.length→b9 i=false)∨∃ j,j<xs.length∧b9 j=true∧(∀ i,i<j→b9 i=false)∧o = .ret (.int .i64 (j:Int))∧K=T (j+1)):=by
 have an:=bC;refine bz.bn aj Tryz.func279 C C fun s I=>?_
 refine hs ?_;refine ae.xi I (σ:=Nat) (fun j=>[(0,.ay 7 (xs.map hR) .aZ),(1,fv),(7,.int .i64 xs.length),(8,.int .i64 (j:Int))]) T (fun j=>j≤xs.length∧∀ i,i<j→b9 i=false) (fun j=>xs.length-j) 0 ⟨by omega,fun i aS=>by omega⟩ zk (aH.all _) ?_;rintro j ⟨aO,aw⟩ I;refine ck ?_;refine ae.cond C (fun az=>?_) (fun a'=>?_)
 ·have az:j<xs.length:=by simpa using az
  obtain ⟨x,ab,ct⟩:=cf (f:=hR) az;have ar:=h j x ab aw
  try rw [hR] at ct ar
  refine bG ?_;refine aa.gr rfl rfl rfl rfl rfl rfl ar I (aH.all _) ?_ (fun _ _ ⟨h,_⟩ _=>by cases h);rintro _ _ ⟨⟨⟩,rfl⟩ I;rw [d8] at I ⊢;cases nI:b9 j with
  | true=>
   refine fB ?_;exact Fin.bu I C aM (aH.all _) (.inr ⟨j,az,nI,aw,rfl,rfl⟩)
  | false=>
   refine bG ?_
   exact bF.mk (j+1) I ⟨az,fun i aS=>by
    rcases Nat.lt_succ_iff_lt_or_eq.1 aS with aS|rfl
    ·exact aw i aS
    ·exact nI⟩ cC (aH.all _) q5
 ·have a':j=xs.length:=by
   have:xs.length≤j:=by simpa using a'
   omega
  subst a';refine eH ?_;exact Fin.bu I C aM (aH.all _) (.inl ⟨rfl,rfl,aw⟩)
theorem U5 (fv:af) (xs:List ch) (T:Nat→a6) (b9:Nat→Bool) (aB:xs.length<bt) (h:∀ j x,xs[j]? = some x→(∀ i,i<j→b9 i=false)→dh d0 fv [hR x] (T j) (fun o K=>o = .ret (.bool (b9 j))∧K=T (j+1))) :
  bz d0 266 [.ay 7 (xs.map hR) .aZ,fv] (T 0)
   (fun o K=>(o = .ret (.bool false)∧K=T xs.length∧∀ i,i<xs.length→b9 i=false)∨∃ j,j<xs.length∧b9 j=true∧(∀ i,i<j→b9 i=false)∧o = .ret (.bool true)∧K=T (j+1)):=by
 refine bz.bn aj Tryz.func266 C C fun s I=>?_
 refine dz ?_;refine aa.bZ rfl rfl rfl rfl rfl (U4 fv xs T b9 aB h) I (aH.all _) ?_ (fun _ _ h _=>by rcases h with ⟨h,_⟩|⟨_,_,_,_,h,_⟩<;>cases h);rintro _ _ (⟨⟨⟩,rfl,U⟩|⟨j,U,ad,al,⟨⟩,rfl⟩) I
 all_goals rw [d8] at I ⊢
 ·refine dY ?_
  exact Fin.bu I C aM (aH.all _) (.inl ⟨rfl,rfl,U⟩)
 ·refine dY ?_
  exact Fin.bu I C (by simp;exact aM) (aH.all _) (.inr ⟨j,U,ad,al,rfl,rfl⟩)
theorem U6 (fv:af) (q:ch→Bool) (xs:List ch) (aB:xs.length<bt) (h:∀ x∈xs,ee d0 fv [hR x] (.bool (q x))) :
  aU d0 266 [.ay 7 (xs.map hR) .aZ,fv] (.bool (xs.any q)):=
 zI (fun T b9 ep=>U5 fv xs T b9 aB ep) h
theorem U7 (a b:List ch) (aB:a.length+b.length<bt) (a8:∀ x∈a,x.1.size<bt) (l0:∀ x∈b,x.1.size<bt):aU d0 246 [.ay 7 (a.map hR) .aZ,.ay 7 (b.map hR) .aZ] (.ay 7 ((jt a b).map hR) .aZ):=by
 have an:=bC;refine aU.bn aj Tryz.func246 C C fun s I=>?_
 have U:=U3 a .aZ ag;have hlen:∀ j,(jt a (b.take j)).length≤a.length+j:=fun j=>by
  have:=Gm (b.take j) a;have:=List.length_take_le j b;omega
 have fV:∀ j,∀ x∈jt a (b.take j),x.1.size<bt:=fun j x ab=>by
  rcases CN _ _ ab with h|h
  ·exact a8 x h
  ·exact l0 x (am5 h)
 refine dz ?_;refine aa.bZ rfl rfl rfl rfl rfl U I (aH.all _) ?_ (fun _ _ ⟨_,h,_⟩ _=>by cases h);rintro _ _ ⟨U8,⟨⟩,rfl⟩ I;rw [d8] at I ⊢;refine bG ?_;refine ae.cl [10,11] C I (σ:=Nat×bN) (fun q=>[(12,.int .i64 (q.1:Int)),(5,.ay 7 ((jt a (b.take q.1)).map hR) q.2)]) (fun q=>[(q.2,.row 289 7 (jt a (b.take q.1)).length)]) (fun q=>q.1≤b.length) (fun q=>b.length-q.1) (0,U8) (g9 _) (cI C) a7 ?_;rintro ⟨j,own⟩ aO I;simp only at aO I ⊢;refine ck ?_;refine ae.cond C (fun az=>?_) (fun a'=>?_);rotate_left
 ·have a':j=b.length:=by simp at a';omega
  subst a';rw [ac'];refine eH ?_;exact Fin.cL I C aR.aZ
 have az:j<b.length:=by simpa using az
 obtain ⟨x,ab,ct⟩:=cf (f:=hR) az;have ao:jt a (b.take (j+1))=qn (jt a (b.take j)) x:=by
  unfold jt;rw [js ab,an'];rfl
 unfold qn at ao;have ek:=l0 x (d6 ab);have np:=hlen j;have pU:=fV j;generalize du:jt a (b.take j)=out at I ao np pU ⊢;have aF:=U6 (.func 267 [] [.bs (pj x) 0]) (vW x) out ag (fun y ax=>U1 x y ek (pU y ax));cases ar:out.any (vW x) with
 | true=>
  rw [ar] at aF;rw [ar,f9 C] at ao;refine fP ?_;exact bF.mk (j+1,own) I az o9 (by show aH _ [(_,.row _ _ (jt a (b.take (j+1))).length)] _;rw [ao];exact aH.ez _) (by show b.length-(j+1)<b.length-j;omega)
 | false=>
  rw [ar] at aF;rw [ar,f0 bc] at ao;refine fP ?_;refine aa.gq aj I C C C C C C C ef C C C C C C C C aV h7 (by show (_+1)*88≤_;omega) ag (fun b2 I=>?_);refine hI ?_;exact bF.mk (j+1,.own b2) I az (by repeat (first|exact trivial|refine ⟨⟨_,rfl,aM⟩,?_⟩|refine ⟨⟨_,rfl,aR.of_eq (by (first|rw [kV ag]|(rw [ao,ac2];rfl)))⟩,?_⟩)) (by show aH _ [(_,.row _ _ (jt a (b.take (j+1))).length)] _;rw [ao,d9,ac8];exact aH.ez _) (by show b.length-(j+1)<b.length-j;omega)
theorem dh.args {P:Program} {fv:af} {xs ys:List af} {K:a6} {ace:eo→a6→Prop} (h:cM xs ys) (k:dh P fv ys K ace):dh P fv xs K ace:=
 fun s I w p v vs b5 ar aC=>k s I w p v vs b5 ar (h.rel aC)
def U9 (dI:Nat):af := .func 243 [] [.ptr dI 0]
abbrev pv (l:List ch):af := .ay 7 (l.map hR) .aZ
def ru (dI:Nat):ds := .box 287 [U9 dI]
def Ac {α:Type} (Go:List α→a6→Prop) (fm:a6→Prop) (fr:af→a6→Prop) (rem:List α) (o:eo) (aN:a6):Prop:=
 (o = .ret (.bool true)∧Go rem aN)∨(o = .ret (.bool false)∧fm aN)∨∃ v,o = .panic v∧fr v aN
structure Ad (dI:Nat) (fv:af) (Go:List (List ch)→a6→Prop) (fm:a6→Prop) (fr:af→a6→Prop):Prop where
 one:cellsOf fv=some [fv]
 call:∀ x rem K,Go (x::rem) K→dh d0 fv [pv x] K (Ac Go fm fr rem)
 qp:∀ xs K,Go xs K→∃ R,bl K (.own dI) (ru dI) R
 vX:∀ K,fm K→∃ R,bl K (.own dI) (ru dI) R
theorem U' {dI:Nat} {fv:af} {Go:List (List ch)→a6→Prop} {fm:a6→Prop} {fr:af→a6→Prop} (ep:Ad dI fv Go fm fr) (a z:List ch) (aB:a.length+z.length<bt) (a8:∀ x∈a,x.1.size<bt) (bP:∀ x∈z,x.1.size<bt) (rem:List (List ch)) (K:a6) (dZ:Go (jt a z::rem) K) :
  dh d0 (.func 245 [] [.bs [fv] 0,.bs [pv a] 0]) [pv z] K (Ac Go fm fr rem):=by
 refine dh.fa (first:=[]) (cap:=[.bs [fv] 0,.bs [pv a] 0]) ?_;refine bz.bn aj Tryz.func245 C C fun s I=>?_
 have U:=U7 a z aB a8 bP;have ad:=ep.call _ _ _ dZ;refine oj ?_;refine aL.Tf C C C C C C C ad I (aH.all _) ?_ ?_
 ·rintro x aN (⟨⟨⟩,au⟩|⟨⟨⟩,av⟩|⟨_,⟨⟩,_⟩) I
  all_goals rw [d8] at I ⊢
  ·refine ht ?_
   exact Fin.bu I C aM (aH.all _) (.inl ⟨rfl,au⟩)
  ·refine ht ?_
   exact Fin.bu I C aM (aH.all _) (.inr (.inl ⟨rfl,av⟩))
 ·rintro x aN (⟨h,_⟩|⟨h,_⟩|⟨v,⟨⟩,aE⟩) I
  ·cases h
  ·cases h
  rw [d8] at I ⊢;exact Fin.e6 I aM (aH.all _) (.inr (.inr ⟨_,rfl,aE⟩))
theorem Va (w:bw) (dI:Nat):∀ (n:Nat) (f:aq),f.size≤n→n<bt→gR w f=true→∀ (b:Bool) (fv:af) (Go:List (List ch)→a6→Prop) (fm:a6→Prop) (fr:af→a6→Prop),Ad dI fv Go fm fr →
  ∀ (rest:List (List ch)) (K:a6),Go (hS b f++rest) K→bz d0 243 [f.cb,.bool b,fv,.ptr dI 0] K (Ac Go fm fr rest):=by
 have an:=bC;intro n
 induction n with
 | zero=>intro x h;have:=x.size_eq;omega
 | succ n aX=>
  intro f aA jB au b fv Go fm fr ep rest K dZ;obtain ⟨R,ao⟩:=ep.qp _ _ dZ;have tW:=ep.one;have iQ:=f.size_eq;have jj:=LR b f;rw [pd,f6] at au;obtain ⟨rp,nL⟩:=au;have im:=Gc f;rw [aq.cE] at im;refine bz.bn aj Tryz.func243 C C fun s I=>?_
  rw [aq.cE];rcases CL rp with ⟨U,ad⟩|⟨aB,ad,U⟩|⟨U,x,ad⟩|⟨U,x,y,ad⟩
  ·rw [jj,U,f9 C] at dZ
   unfold aq.cells;rw [U];cases b with
   | true=>
    refine j6 ?_;refine aa.jE I C C C C C tW (fun qq I=>?_);refine aa.mn I 6 qq C .here (fun I=>?_);refine bG ?_;exact Fin.bu I C aM (aH.all _) (.inl ⟨rfl,dZ⟩)
   | false=>
    have al:=dh.args (show cM [.ay 0 [] .nil] [pv []] from .one aR.empty) (ep.call _ _ _ dZ);refine j6 ?_;refine aa.jE I C C C C C tW (fun qq I=>?_);refine aa.mn I 6 qq C .here (fun I=>?_);refine bG ?_;refine aa.gr C C C C C C al I (aH.all _) ?_ ?_
    ·rintro x aN (⟨⟨⟩,au⟩|⟨⟨⟩,av⟩|⟨_,⟨⟩,_⟩) I
     all_goals rw [d8] at I ⊢
     ·refine fB ?_
      exact Fin.bu I C aM (aH.all _) (.inl ⟨rfl,au⟩)
     ·refine fB ?_
      exact Fin.bu I C aM (aH.all _) (.inr (.inl ⟨rfl,av⟩))
    ·rintro x aN (⟨h,_⟩|⟨h,_⟩|⟨v,⟨⟩,aE⟩) I
     ·cases h
     ·cases h
     rw [d8] at I ⊢;exact Fin.e6 I aM (aH.all _) (.inr (.inr ⟨_,rfl,aE⟩))
  ·rw [jj,f0 ag,f0 ag,f9 aB] at dZ
   rw [aB] at im;have cP:(f.op==1)=false:=by simp;omega
   have c9:(f.op==5)=false:=by simp;omega
   have al:=dh.args (show cM [.ay 7 [hR (f,b)] .clip] [pv [(f,b)]] from .one aR.aZ) (ep.call _ _ _ dZ);unfold hR pj aq.cells at al;unfold aq.cells;refine j6 ?_;refine aa.jE I C C C C C tW (fun qq I=>?_);refine aa.mn I 6 qq C .here (fun I=>?_);refine bG ?_;refine ae.cond C (fun h=>by rw [cP] at h;cases h) (fun _=>?_);refine ck ?_;refine ae.cond C (fun h=>by rw [c9] at h;cases h) (fun _=>?_);refine di ?_;refine aa.gr C C C C C C al I (aH.all _) ?_ ?_
   ·rintro x aN (⟨⟨⟩,au⟩|⟨⟨⟩,av⟩|⟨_,⟨⟩,_⟩) I
    all_goals rw [d8] at I ⊢
    ·refine fB ?_
     exact Fin.bu I C aM (aH.all _) (.inl ⟨rfl,au⟩)
    ·refine fB ?_
     exact Fin.bu I C aM (aH.all _) (.inr (.inl ⟨rfl,av⟩))
   ·rintro x aN (⟨h,_⟩|⟨h,_⟩|⟨v,⟨⟩,aE⟩) I
    ·cases h
    ·cases h
    rw [d8] at I ⊢;exact Fin.e6 I aM (aH.all _) (.inr (.inr ⟨_,rfl,aE⟩))
  ·have ab:=aq.iD (l:=f.kids) (x:=x) mz
   have i1:=aX x ag ag (lq nL mz) (!b) fv Go fm fr ep rest K;have b7:([x].map aq.cb)[0]? = some (.agg x.cells):=by rw [← aq.cE];rfl
   rw [jj,U,f0 ag,f9 C,ad,sT _ 0 [x] x C] at dZ;have i1:=dh.fa (first:=[]) (args:=[x.cb,.bool (!b),fv]) (cap:=[.ptr dI 0]) (i1 dZ);rw [aq.cE] at i1;unfold ru at ao;unfold aq.cells;rw [U,ad];refine j6 ?_;refine aa.jE I C C C C C tW (fun qq I=>?_);refine aa.mn I 6 qq C .here (fun I=>?_);refine aa.run aj C (aa.nil ?_)
   repeat (first
    | refine ae.tP I dI ao aj mixed C ?_
    | with_reducible apply ae.seq
    | with_reducible apply b0
    | with_reducible apply fz
    | with_reducible apply ae.block
    | refine ae.fL C ?_
    | refine ae.gA C ?_
    | refine c1 C ?_
    | refine ae.skip ?_)
   refine di ?_;refine aL.zL C C C C C C C i1 I (aH.all _) (fun x aN h=>?_) ?_ ?_
   ·rw [d8]
    rcases h with ⟨_,h⟩|⟨_,h⟩|⟨_,h,_⟩
    ·exact ep.qp _ _ h
    ·exact ep.vX _ h
    ·cases h
   ·rintro x aN (⟨⟨⟩,au⟩|⟨⟨⟩,av⟩|⟨_,⟨⟩,_⟩) I
    all_goals rw [d8] at I ⊢
    ·refine ht ?_
     exact Fin.bu I C aM (aH.all _) (.inl ⟨rfl,au⟩)
    ·refine ht ?_
     exact Fin.bu I C aM (aH.all _) (.inr (.inl ⟨rfl,av⟩))
   ·rintro x aN (⟨h,_⟩|⟨h,_⟩|⟨v,⟨⟩,aE⟩) I
    ·cases h
    ·cases h
    rw [d8] at I ⊢;exact Fin.e6 I aM (aH.all _) (.inr (.inr ⟨_,rfl,aE⟩))
  ·have ab:=aq.iD (l:=f.kids) (x:=x) mz
   have ax:=aq.iD (l:=f.kids) (x:=y) tT;have i1:=aX x ag ag (lq nL mz) b;have i2:=aX y ag ag (lq nL tT) b;have b7:([x,y].map aq.cb)[0]? = some (.agg x.cells):=by rw [← aq.cE];rfl
   have bR:([x,y].map aq.cb)[1]? = some (.agg y.cells):=by rw [← aq.cE];rfl
   have oV:f.c7=false:=by unfold aq.c7;simp;omega
   have Gp:=ua f.kids b;have ub:=LU f.kids b;rw [oV] at im;have abd:=dZ;rw [jj,f0 ag,f0 ag,f0 (by rw [oV];simp),ad,sT _ 0 [x,y] x C,sT _ 1 [x,y] y C] at dZ;rw [ad] at Gp ub;have LW:=Gp 0;have LX:=Gp 1;rw [sT _ 0 [x,y] x C] at LW;rw [sT _ 1 [x,y] y C] at LX;rw [sT _ 0 [x,y] x C,sT _ 1 [x,y] y C] at ub;have b':aq.iC [x,y]<bt:=by rw [← ad];omega
   unfold ru at ao;unfold aq.cells at im ⊢;by_cases Gq:b=decide (f.op=6)
   ·rw [f9 Gq,ae6] at dZ
    have vY:=dh.fa (first:=[]) (args:=[x.cb,.bool b,fv]) (cap:=[.ptr dI 0]) (i1 fv Go fm fr ep _ K dZ);have k3:=fun K dZ=>dh.fa (first:=[]) (args:=[y.cb,.bool b,fv]) (cap:=[.ptr dI 0]) (i2 fv Go fm fr ep rest K dZ)
    rw [aq.cE] at vY k3;have cP:(f.op==1)=false:=by simp;omega
    have c9:(f.op==5)=false:=by simp;omega
    have eP:(b==(f.op==6))=true:=by rw [Gq];by_cases gN:f.op=6<;>simp [gN]
    rw [ad] at im ⊢;refine j6 ?_;refine aa.jE I C C C C C tW (fun qq I=>?_);refine aa.mn I 6 qq C .here (fun I=>?_);refine bG ?_;refine ae.cond C (fun h=>by rw [cP] at h;cases h) (fun _=>?_);refine ck ?_;refine ae.cond C (fun h=>by rw [c9] at h;cases h) (fun _=>?_);refine cD ?_;refine ae.cond C (fun _=>?_) (fun h=>by rw [eP] at h;cases h)
    repeat (first
     | refine ae.tP I dI ao aj mixed C ?_
     | with_reducible apply ae.seq
     | with_reducible apply b0
     | with_reducible apply fz
     | with_reducible apply ae.block
     | refine ae.fL C ?_
     | refine ae.gA C ?_
     | refine c1 C ?_
     | refine ae.skip ?_)
    refine di ?_;refine aL.zL C C C C C C C vY I (aH.all _) (fun x aN h=>?_) ?_ ?_
    ·rw [d8]
     rcases h with ⟨_,h⟩|⟨_,h⟩|⟨_,h,_⟩
     ·exact ep.qp _ _ h
     ·exact ep.vX _ h
     ·cases h
    rotate_left
    ·rintro x aN (⟨h,_⟩|⟨h,_⟩|⟨v,⟨⟩,aE⟩) I
     ·cases h
     ·cases h
     rw [d8] at I ⊢;exact Fin.e6 I aM (aH.all _) (.inr (.inr ⟨_,rfl,aE⟩))
    rintro _ aN (⟨⟨⟩,au⟩|⟨⟨⟩,av⟩|⟨_,h,_⟩) I
    ·rw [d8] at I ⊢
     refine di ?_;refine aL.zL C C C C C C C (k3 _ au) I (aH.all _) (fun x aN h=>?_) ?_ ?_
     ·rw [d8]
      rcases h with ⟨_,h⟩|⟨_,h⟩|⟨_,h,_⟩
      ·exact ep.qp _ _ h
      ·exact ep.vX _ h
      ·cases h
     ·rintro x aN (⟨⟨⟩,au⟩|⟨⟨⟩,av⟩|⟨_,⟨⟩,_⟩) I
      all_goals rw [d8] at I ⊢
      ·refine ht ?_
       exact Fin.bu I C aM (aH.all _) (.inl ⟨rfl,au⟩)
      ·refine ht ?_
       exact Fin.bu I C aM (aH.all _) (.inr (.inl ⟨rfl,av⟩))
     ·rintro x aN (⟨h,_⟩|⟨h,_⟩|⟨v,⟨⟩,aE⟩) I
      ·cases h
      ·cases h
      rw [d8] at I ⊢;exact Fin.e6 I aM (aH.all _) (.inr (.inr ⟨_,rfl,aE⟩))
    ·rw [d8] at I ⊢
     refine ht ?_;exact Fin.bu I C aM (aH.all _) (.inr (.inl ⟨rfl,av⟩))
    ·cases h
   ·rw [f0 Gq] at dZ
    have cP:(f.op==1)=false:=by simp;omega
    have c9:(f.op==5)=false:=by simp;omega
    have eP:(b==(f.op==6))=false:=by
     cases b<;>simp_all
    have Vb:∀ (a:List ch) (rest:List (List ch)),a∈hS b x→Ad dI (.func 245 [] [.bs [fv] 0,.bs [pv a] 0]) (fun aV K=>(∀ z∈aV,z∈hS b y)∧Go (aV.map (jt a)++rest) K) fm fr:=fun a rest a8=>by
     refine ⟨rfl,fun z rem K ⟨bP,au⟩=>?_,fun xs K h=>ep.qp _ _ h.2,ep.vX⟩;have Gr:=bP z i5;refine dh.mono (U' ep a z (by have:=ub a z a8 Gr;omega) (fun u hu=>by have:=(LW a a8).2 u hu;omega) (fun u hu=>by have:=(LX z Gr).2 u hu;omega) (rem.map (jt a)++rest) K au) ?_;rintro o aN (⟨U,h⟩|h|h)
     ·exact .inl ⟨U,fun z xD=>bP z (g7 _ xD),h⟩
     ·exact .inr (.inl h)
     ·exact .inr (.inr h)
    have Vc:Ad dI (.func 244 [] [.ptr dI 0,.bs f.cells 0,.bs [.bool b] 0,.bs [fv] 0]) (fun xs K=>(∀ a∈xs,a∈hS b x)∧Go ((xs.flatMap fun a=>(hS b y).map (jt a))++rest) K) fm fr:=by
     refine ⟨rfl,fun a rem K ⟨a8,au⟩=>?_,fun xs K h=>ep.qp _ _ h.2,ep.vX⟩;obtain ⟨R,ao⟩:=ep.qp _ _ au;unfold ru at ao;refine dh.fa (first:=[]) (cap:=[.ptr dI 0,.bs f.cells 0,.bs [.bool b] 0,.bs [fv] 0]) ?_;refine bz.bn aj Tryz.func244 C C fun s I=>?_
     rw [List.flatMap_cons,ae6] at au;have k3:=dh.fa (first:=[]) (args:=[y.cb,.bool b,.func 245 [] [.bs [fv] 0,.bs [pv a] 0]]) (cap:=[.ptr dI 0]) (i2 _ _ fm fr (Vb a ((rem.flatMap fun a=>(hS b y).map (jt a))++rest) (a8 a i5)) [] K ⟨fun z bP=>by rw [d8] at bP;exact bP,by rw [d8];exact au⟩);rw [aq.cE] at k3;unfold aq.cells;rw [ad];unfold aq.cells at k3
     repeat (first
      | refine ae.tP I dI ao aj mixed C ?_
      | with_reducible apply ae.seq
      | with_reducible apply b0
      | with_reducible apply fz
      | with_reducible apply ae.block
      | refine ae.fL C ?_
      | refine ae.gA C ?_
      | refine c1 C ?_
      | refine ae.skip ?_)
     refine di ?_;refine aL.zL C C C C C C C k3 I (aH.all _) (fun x aN h=>?_) ?_ ?_
     ·rw [d8]
      rcases h with ⟨_,h⟩|⟨_,h⟩|⟨_,h,_⟩
      ·exact ep.qp _ _ h.2
      ·exact ep.vX _ h
      ·cases h
     ·rintro x aN (⟨⟨⟩,au⟩|⟨⟨⟩,av⟩|⟨_,⟨⟩,_⟩) I
      all_goals rw [d8] at I ⊢
      ·refine ht ?_
       exact Fin.bu I C aM (aH.all _) (.inl ⟨rfl,fun z bP=>a8 z (g7 _ bP),au.2⟩)
      ·refine ht ?_
       exact Fin.bu I C aM (aH.all _) (.inr (.inl ⟨rfl,av⟩))
     ·rintro x aN (⟨h,_⟩|⟨h,_⟩|⟨v,⟨⟩,aE⟩) I
      ·cases h
      ·cases h
      rw [d8] at I ⊢;exact Fin.e6 I aM (aH.all _) (.inr (.inr ⟨_,rfl,aE⟩))
    have vY:=dh.fa (first:=[]) (args:=[x.cb,.bool b,.func 244 [] [.ptr dI 0,.bs f.cells 0,.bs [.bool b] 0,.bs [fv] 0]]) (cap:=[.ptr dI 0]) (i1 _ _ fm fr Vc [] K ⟨fun z bP=>by rw [d8] at bP;exact bP,by rw [d8];exact dZ⟩);rw [aq.cE] at vY;unfold aq.cells at vY;rw [ad] at vY im ⊢;refine j6 ?_;refine aa.jE I C C C C C tW (fun qq I=>?_);refine aa.mn I 6 qq C .here (fun I=>?_);refine bG ?_;refine ae.cond C (fun h=>by rw [cP] at h;cases h) (fun _=>?_);refine ck ?_;refine ae.cond C (fun h=>by rw [c9] at h;cases h) (fun _=>?_);refine cD ?_;refine ae.cond C (fun h=>by rw [eP] at h;cases h) (fun _=>?_)
    repeat (first
     | refine ae.tP I dI ao aj mixed C ?_
     | with_reducible apply ae.seq
     | with_reducible apply b0
     | with_reducible apply fz
     | with_reducible apply ae.block
     | refine ae.fL C ?_
     | refine ae.gA C ?_
     | refine c1 C ?_
     | refine ae.skip ?_)
    refine di ?_;refine aL.zL C C C C C C C vY I (aH.all _) (fun x aN h=>?_) ?_ ?_
    ·rw [d8]
     rcases h with ⟨_,h⟩|⟨_,h⟩|⟨_,h,_⟩
     ·exact ep.qp _ _ h.2
     ·exact ep.vX _ h
     ·cases h
    ·rintro x aN (⟨⟨⟩,au⟩|⟨⟨⟩,av⟩|⟨_,⟨⟩,_⟩) I
     all_goals rw [d8] at I ⊢
     ·refine ht ?_
      exact Fin.bu I C aM (aH.all _) (.inl ⟨rfl,au.2⟩)
     ·refine ht ?_
      exact Fin.bu I C aM (aH.all _) (.inr (.inl ⟨rfl,av⟩))
    ·rintro x aN (⟨h,_⟩|⟨h,_⟩|⟨v,⟨⟩,aE⟩) I
     ·cases h
     ·cases h
     rw [d8] at I ⊢;exact Fin.e6 I aM (aH.all _) (.inr (.inr ⟨_,rfl,aE⟩))
def oF (k:IntKind) (xs:List Int):Value := .agg (xs.map (Value.int k)).toArray
def jU (k:IntKind) (xs:List Int):af := .agg (xs.map (af.int k))
structure rv (P:Program) (dH:TypeId) (k:IntKind) (n:Nat):Prop where
 wide:(match P.underlying dH with|some (.array _ _)|some (.struct _)=>true|_=>false)=true
 check:∀ e xs,xs.length=n→∀ w,(Instr.checkKey e 10000 dH (oF k xs)).run P w = .ok () w
 eq:∀ xs ys,xs.length=n→ys.length=n→∀ w,(Op.equal dH (oF k xs) (oF k ys)).run P w = .ok (xs==ys) w
theorem Ae {w:World} {p:bO} {k:IntKind} {v:Value}:∀ {xs:List Int},Rel w p v (jU k xs)→v=oF k xs:=by
 intro xs h;cases h with
 | agg cs _ aC=>
 have:∀ {l:List Value} {xs:List Int},bD w p l (xs.map (af.int k))→l=xs.map (Value.int k):=by
  intro l
  induction l with
  | nil=>intro xs h;cases xs with|nil=>rfl|cons x r=>cases h
  | cons v l aX=>
   intro xs h;cases xs with
   | nil=>cases h
   | cons x r=>
    cases h with
    | cons _ _ _ _ U ad=>
    cases U;rw [aX ad];rfl
 unfold oF;rw [← this aC]
def l1 (k:IntKind) (l:List (List Int×af)):List (af×af):=l.map fun e=>(jU k e.1,e.2)
theorem LY {P:Program} {dH:TypeId} {k:IntKind} {n:Nat} (gu:rv P dH k n) {w:World} {p:bO} {xs:List Int} (ab:xs.length=n):∀ (cJ:List MapEntry) (l:List (List Int×af)) (i:Nat),
  k7 w p cJ (l1 k l)→(∀ e∈l,e.1.length=n) →
  match l.find? (fun e=>e.1==xs) with
  | none=>(Instr.findAsking dH (oF k xs) cJ i).run P w = .ok none w
  | some e=>∃ j val,(Instr.findAsking dH (oF k xs) cJ i).run P w = .ok (some (j,val)) w∧Rel w p val e.2:=by
 intro cJ
 induction cJ with
 | nil=>
  intro l i aC aB;cases l with
  | nil=>rfl
  | cons e r=>exact absurd aC.1.length (by simp only [l1,ac0,ae3,i7,ae1];omega)
 | cons m cJ aX=>
  intro l i aC aB;cases l with
  | nil=>exact absurd aC.1.length (by simp only [l1,ac0,ae3,i7,ae1];omega)
  | cons e r=>
   obtain ⟨w5,sb⟩:=aC;simp only [l1,ac0] at w5 sb;cases w5 with|cons _ _ _ _ aD sc=>cases sb with|cons _ _ _ _ ar pR=>
   have he:=Ae aD;have bp:=gu.eq xs e.1 ab (aB e i5) w;rw [← he] at bp;have aF:(xs==e.1)=(e.1==xs):=by rw [ad1,aj1,aj1];exact ⟨fun h=>h.symm,fun h=>h.symm⟩
   rw [aF] at bp;rw [av2];cases an:e.1==xs with
   | true=>
    rw [an] at bp;simp only;refine ⟨i,m.val,?_,ar⟩;unfold Instr.findAsking;simp only [z2,bp,g6];rfl
   | false=>
    rw [an] at bp;simp only;have:=aX r (i+1) ⟨sc,pR⟩ (fun e he=>aB e (g7 _ he));have vp:(Instr.findAsking dH (oF k xs) (m::cJ) i).run P w=(Instr.findAsking dH (oF k xs) cJ (i+1)).run P w:=by
     conv=>lhs;unfold Instr.findAsking
     simp only [z2,bp,g6];rfl
    rw [vp];exact this
section
variable {P:Program} {Γ:cj} {N:Nat} {env:Env} {s:ak} {o:Oper} {d:Nat} {ops:Array Oper} {rest:List Oper} {Q:bX→Env→ak→Prop} {L R:a6} {l:List Oper} {i:Nat} {J:ak→Prop}
theorem aW.xM (aP:bM P Γ) {t dH eW:TypeId} {x y:Operand} {ok:Bool} {it aG:bL} {b n:Nat} {k:IntKind} {es:List (List Int×af)} {xs:List Int} {z:af} (gu:rv P dH k n) (ah:o.op = .lookup t x y ok)
  (aK:Γ.get? t=some it) (br:it.bE = .map dH eW) (bH:Γ.get? eW=some aG) (ab:aJ env x=some (.map b)) (ax:aJ env y=some (jU k xs)) (aA:xs.length=n) (pw:∀ e∈es,e.1.length=n)
  (ao:s b=some (.map (l1 k es))) (bP:ho aG.zero=some z) {X:af→ak→Prop} :
  aW P N o env s (fun x ai=>x=la ok z ((es.find? fun e=>e.1==xs).map (·.2))∧ai=s) X:=by
 refine aW.jY iN fun ro B a w p aI=>?_
 obtain ⟨info,vD,U,ad,al,-⟩:=aP.parts aK;obtain ⟨jx,jZ,Er,yU,Qo,-,-,Es⟩:=aP.parts bH;have av:vD = .map dH eW:=by rw [br] at al;cases vD<;>simp [eh] at al;rw [al.1,al.2]
 subst av;have aC:=aI.aJ ab;have j0:=Ae (aI.aJ ax);generalize ei:a.eval x=dG at aC;cases aC;have Et:(zeroValue eW).run P w = .ok aG.zero w:=by simp [zeroValue,typeInfo,Er,Es]
 obtain ⟨cJ,clock,g1,g2,-⟩:=aI.wf.obj _ _ ao;have a1:=LY gu aA cJ.toList es 0 g2 pw;have Ev:∃ val,(Instr.lookup t (.map (some b)) (a.eval y) ok).run P w = .ok val w∧Rel w p val (la ok z ((es.find? fun e=>e.1==xs).map (·.2))):=by
  unfold Instr.lookup;rw [j0];simp only [z2,run_underlying ad,g6,w6 g1 C,ac4,gu.check _ xs aA,run_findKey_eq w gu.wide];cases jj:es.find? fun e=>e.1==xs with
  | none=>
   rw [jj] at a1;simp only at a1;simp only [a1,g6,z2,Et,ac4,la,aq'];cases ok
   ·exact ⟨_,rfl,pO bP⟩
   ·exact ⟨_,rfl,.cg _ _ (.cons _ _ _ _ (pO bP) (.cons _ _ _ _ (.bool _) .nil))⟩
  | some e=>
   rw [jj] at a1;obtain ⟨j,val,dV,dg⟩:=a1;simp only [dV,g6,ac4,la,am3];cases ok
   ·exact ⟨_,rfl,dg⟩
   ·exact ⟨_,rfl,.cg _ _ (.cons _ _ _ _ dg (.cons _ _ _ _ (.bool _) .nil))⟩
 obtain ⟨val,cK,eG⟩:=Ev;refine ⟨val,w,s,p,_,?_,.refl w p,.refl s w p,aI.wf,⟨rfl,rfl⟩,eG⟩;unfold execOp;rw [ah];simp only [ei];exact gC cK
theorem aW.Af (aP:bM P Γ) {t dH eW:TypeId} {x y z:Operand} {it:bL} {b n:Nat} {k:IntKind} {es:List (List Int×af)} {xs:List Int} {v:af} (gu:rv P dH k n) (ah:o.op = .mapUpdate t x y z∨o.op = .insert t x y z)
  (aK:Γ.get? t=some it) (br:it.bE = .map dH eW) (ab:aJ env x=some (.map b)) (ax:aJ env y=some (jU k xs)) (bP:aJ env z=some v) (aA:xs.length=n) (pw:∀ e∈es,e.1.length=n)
  (ao:s b=some (.map (l1 k es))) (yV:es.find? (fun e=>e.1==xs)=none) {X:af→ak→Prop} :
  aW P N o env s (fun _ ai=>ai=s.set b (.map (l1 k (es++[(xs,v)])))) X:=by
 refine aW.Eo (by rcases ah with ah|ah<;>simp [gm,ah]) fun ro B a w p aI=>?_
 obtain ⟨info,vD,U,ad,al,-⟩:=aP.parts aK;have av:vD = .map dH eW:=by rw [br] at al;cases vD<;>simp [eh] at al;rw [al.1,al.2]
 subst av;have aC:=aI.aJ ab;have LZ:=aI.aJ ax;have j0:=Ae LZ;have Ex:=aI.aJ bP;obtain ⟨cJ,clock,g1,g2,g3,g4⟩:=aI.wf.obj _ _ ao;generalize ei:a.eval x=dG at aC;cases aC;have a1:=LY gu aA cJ.toList es 0 g2 pw;rw [yV] at a1;simp only at a1;have cK:(Instr.mapUpdate t (.map (some b)) (a.eval y) (a.eval z)).run P w = .ok () { w with heap:=w.heap.setIfInBounds b (.map (cJ.push { key:=a.eval y,val:=a.eval z,born:=clock }) (clock+1)) }:=by
  unfold Instr.mapUpdate;rw [j0];simp only [z2,run_underlying ad,g6,w6 g1 C,gu.check _ xs aA,run_findKey_eq w gu.wide,a1];simp [setObj,Sem.run,g1]
 have Vd:∀ w',(Instr.mapUpdate t (.map (some b)) (a.eval y) (a.eval z)).run P w = .ok () w'→(execOp a.eval o).run P w = .ok .skip w':=by
  intro w' hw;unfold execOp;rcases ah with ah|ah<;>rw [ah]<;>simp only [ei]<;>simp only [z2,hw,g6,ac4]
 have eG:k7 w p (cJ.push { key:=a.eval y,val:=a.eval z,born:=clock }).toList (l1 k (es++[(xs,v)])):=by
  unfold l1;rw [aq1,ac2];exact ⟨by rw [ac2,ac2];exact g2.1.append (.cons _ _ _ _ LZ .nil),by rw [ac2,ac2];exact g2.2.append (.cons _ _ _ _ Ex .nil)⟩
 obtain ⟨cv,db,e8⟩:=Ew aI.wf ao (mes':=cJ.push { key:=a.eval y,val:=a.eval z,born:=clock }) (clock':=clock+1) eG
  (by intro e he;simp only [aq1,ac7,t7] at he;rcases he with he|rfl;have:=g3 e he;omega;simp)
  (by
   simp only [aq1,ac2,ac0,ae3]
   rw [List.nodup_append]
   refine ⟨g4,by simp,?_⟩
   intro x ab y ax e
   simp only [t7] at ax
   obtain ⟨m,hm,rfl⟩:=ad2.1 ab
   have:=g3 m hm
   omega) _ C
 exact ⟨_,_,p,Vd _ cK,cv,db,e8,rfl⟩
theorem aL.xM (aP:bM P Γ) (I:Ok s L) {t dH eW:TypeId} {x y:Operand} {Ag:Bool} {it aG:bL} {b n:Nat} {k:IntKind} {es:List (List Int×af)} {xs:List Int} {z:af} (gu:rv P dH k n) (au:cY l env o) (av:o.dst=some d) (aY:i9 d N=true) (ah:o.op = .lookup t x y Ag)
  (aK:Γ.get? t=some it) (br:it.bE = .map dH eW) (bH:Γ.get? eW=some aG) (ab:aJ (bU l env o) x=some (.map b)) (ax:aJ (bU l env o) y=some (jU k xs)) (aA:xs.length=n) (pw:∀ e∈es,e.1.length=n)
  (ao:bl L (.own b) (.map (l1 k es)) R) (bP:ho aG.zero=some z)
  (h:aL (fun ai=>ai=aQ s L) P Γ N l (i+1) rest Q ((d,la Ag z ((es.find? fun e=>e.1==xs).map (·.2)))::env) (aQ s L)):aL (fun ai=>ai=aQ s L) P Γ N l i (o::rest) Q env (aQ s L):=
 aL.calm au av aY (fun _ e=>by subst e;exact aW.xM aP gu ah aK br bH ab ax aA pw (ao.get I) bP) h
theorem aa.xM (aP:bM P Γ) (I:Ok s L) {t dH eW:TypeId} {x y:Operand} {Ag:Bool} {it aG:bL} {b n:Nat} {k:IntKind} {es:List (List Int×af)} {xs:List Int} {z:af} (gu:rv P dH k n) (au:guardOf ops env o=some true) (av:o.dst=some d) (aY:i9 d N=true) (ah:o.op = .lookup t x y Ag)
  (aK:Γ.get? t=some it) (br:it.bE = .map dH eW) (bH:Γ.get? eW=some aG) (ab:aJ env x=some (.map b)) (ax:aJ env y=some (jU k xs)) (aA:xs.length=n) (pw:∀ e∈es,e.1.length=n)
  (ao:bl L (.own b) (.map (l1 k es)) R) (bP:ho aG.zero=some z)
  (h:aa P N ops rest Q ((d,la Ag z ((es.find? fun e=>e.1==xs).map (·.2)))::env) (aQ s L)):aa P N ops (o::rest) Q env (aQ s L):=
 aa.op au av aY (aW.xM aP gu ah aK br bH ab ax aA pw (ao.get I) bP (X:=fun _ _=>False)) (fun x ai ⟨U,ad⟩=>by subst U;subst ad;exact h) (fun _ _ h=>h.elim)
theorem aL.Af (aP:bM P Γ) (I:Ok s L) {t dH eW:TypeId} {x y z:Operand} {it:bL} {b n:Nat} {k:IntKind} {es:List (List Int×af)} {xs:List Int} {v:af} (gu:rv P dH k n) (au:cY l env o) (av:o.dst=none) (lx:kt l.toArray i=true) (ah:o.op = .mapUpdate t x y z∨o.op = .insert t x y z)
  (aK:Γ.get? t=some it) (br:it.bE = .map dH eW) (ab:aJ (bU l env o) x=some (.map b)) (ax:aJ (bU l env o) y=some (jU k xs)) (bP:aJ (bU l env o) z=some v) (aA:xs.length=n) (pw:∀ e∈es,e.1.length=n)
  (ao:bl L (.own b) (.map (l1 k es)) R) (yV:es.find? (fun e=>e.1==xs)=none)
  (h:Ok s ((.own b,.map (l1 k (es++[(xs,v)])))::R)→Q .normal env (aQ s ((.own b,.map (l1 k (es++[(xs,v)])))::R))):aL J P Γ N l i [o] Q env (aQ s L):=
 aL.FX au av lx (aW.Af aP gu ah aK br ab ax bP aA pw (ao.get I) yV (X:=fun _ _=>False)) (fun x ai U=>by
  obtain ⟨b7,bR⟩:=ao.put (.map (l1 k (es++[(xs,v)]))) I
  rw [U,b7];exact h bR) (fun _ _ h=>h.elim)
end
theorem four {xs:List Int} (h:xs.length=4):∃ a b c d,xs=[a,b,c,d]:=by
 match xs,h with
 | [a,b,c,d],_=>exact ⟨a,b,c,d,rfl⟩
theorem two {xs:List Int} (h:xs.length=2):∃ a b,xs=[a,b]:=by
 match xs,h with
 | [a,b],_=>exact ⟨a,b,rfl⟩
theorem L0 {T e:TypeId} {k:IntKind} {info:TypeInfo} (hu:(d0).underlying T=some (.array 2 e)) (aS:(d0).info? e=some info) (aF:(d0).cellsOf e=1) (he:(d0).underlying e=some (.int k))
  (aE:∀ (a b:Int) (w:World),(part e #[.int k a,.int k b] 0).run d0 w = .ok (.int k a) w∧(part e #[.int k a,.int k b] 1).run d0 w = .ok (.int k b) w) (d:Nat) (a b c3 aT:Int) (w:World) :
  (Op.equalIn (d+2) T (.agg #[.int k a,.int k b]) (.agg #[.int k c3,.int k aT])).run d0 w = .ok ([a,b]==[c3,aT]) w:=by
 rw [show d+2=(d+1)+1 from rfl,run_equalIn_array w _ _ _ hu aS,aF];have bp:∀ a b:Int,(Op.equalIn (d+1) e (.int k a) (.int k b)).run d0 w = .ok (a==b) w:=fun a b=>run_equalIn_int w d e k k a b he
 simp only [show af7 2=[0,1] from rfl,Op.eqItems,z2,Nat.zero_mul,Nat.one_mul,(aE a b w).1,(aE a b w).2,(aE c3 aT w).1,(aE c3 aT w).2,g6,bp];cases U:a==c3<;>cases ad:b==aT<;>simp_all
theorem L1:rv d0 319 .i64 4:=by
 refine ⟨by kernel_rfl,fun e xs ab w=>?_,fun xs ys ab ax w=>?_⟩
 ·obtain ⟨a,b,c,d,rfl⟩:=four ab
  kernel_rfl
 ·obtain ⟨a,b,c,d,rfl⟩:=four ab
  obtain ⟨c3,aT,nA,cX,rfl⟩:=four ax;have ao:(d0).underlying 319 = some (.struct ((d0).fieldsOf 319)):=by kernel_rfl
  have aE:(d0).stoodInHeld 319 = false:=by kernel_rfl
  have a1:((d0).fieldsOf 319).toList=[{ name := "arg", type := 3, offset:=0,embedded:=false,tag := "", pkgPath := "consort/fact", byteOffset:=0 },{ name := "many", type := 3, offset:=1,embedded:=false,tag := "", pkgPath := "consort/fact", byteOffset:=8 },{ name := "path", type := 317, offset:=2,embedded:=false,tag := "", pkgPath := "consort/fact", byteOffset:=16 }]:=by kernel_rfl
  have hint:(d0).underlying 3 = some (.int .i64):=by kernel_rfl
  obtain ⟨info,aS⟩:=info_of_underlying hint;have kB:∀ a b c d:Int,(part 3 #[.int .i64 a,.int .i64 b,.int .i64 c,.int .i64 d] 0).run d0 w = .ok (.int .i64 a) w:=fun a b c d=>by kernel_rfl
  have CO:∀ a b c d:Int,(part 3 #[.int .i64 a,.int .i64 b,.int .i64 c,.int .i64 d] 1).run d0 w = .ok (.int .i64 b) w:=fun a b c d=>by kernel_rfl
  have Ve:∀ a b c d:Int,(part 317 #[.int .i64 a,.int .i64 b,.int .i64 c,.int .i64 d] 2).run d0 w = .ok (.agg #[.int .i64 c,.int .i64 d]) w:=fun a b c d=>by kernel_rfl
  have Ah:=L0 (T := 317) (e := 3) (k := .i64) fA aS fA hint (fun a b w=>⟨by kernel_rfl,by kernel_rfl⟩) 9997 c d nA cX w;have ar:∀ a b c d:Int,oF .i64 [a,b,c,d] = .agg #[.int .i64 a,.int .i64 b,.int .i64 c,.int .i64 d]:=fun _ _ _ _=>rfl
  have bp:∀ a b:Int,(Op.equalIn 9999 3 (.int .i64 a) (.int .i64 b)).run d0 w = .ok (a==b) w:=fun a b=>run_equalIn_int w 9998 3 .i64 .i64 a b hint
  have Ah:(Op.equalIn 9999 317 (.agg #[.int .i64 c,.int .i64 d]) (.agg #[.int .i64 nA,.int .i64 cX])).run d0 w = .ok ([c,d]==[nA,cX]) w:=Ah;rw [ar,ar];unfold Op.equal;rw [show Op.maxDepth=9999+1 from rfl,run_equalIn_struct w _ _ _ _ ao aE,a1];simp only [Op.eqFields,z2,ne_eq,reduceCtorEq,not_false_eq_true,ae2,kB,CO,Ve,g6,bp,Ah];cases U:a==c3<;>cases ad:b==aT<;>cases al:c==nA<;>cases bd:d==cX<;>simp_all
structure de where
 low:Int
 high:Int
 eY:List Int
 fE:Nat
 no:Nat
 whole:Bool
 gb:Bool
 bj:List Int
def iH:de:=⟨-1000000000,1000000000,[],0,0,false,false,[]⟩
def bq (arg:Int) (path:List Int):List Int:=[arg,(path.length:Int),path.getD 0 0,path.getD 1 0]
def mC (s:Int) (l:List Int):List Int:=if l.contains s then l else (l++[s]).mergeSort (fun a b=>decide (a≤b))
def de.need (k:de) (neg:Bool):de:={ k with gb:=k.gb || !neg }
def de.slot (k:de) (s:Int):de:={ k with bj:=mC s k.bj }
def de.ask (k:de) (x:ch):de:=
 if x.1.op=2 then (if x.2 then { k with no:=k.no|||2^x.1.cls.toNat } else { k with fE:=k.fE|||2^x.1.cls.toNat })
 else if x.1.op=3 then (if x.2 then { k with low:=max k.low x.1.n } else { k with high:=min k.high (x.1.n-1),whole:=true })
 else if x.2 then { k with eY:=k.eY++[x.1.n] }
 else { k with low:=max k.low x.1.n,high:=min k.high x.1.n,whole:=true }
abbrev dJ:=List Int→de
def dJ.hJ (σ:dJ) (sp:List Int) (k:de):dJ:=fun q=>if q=sp then k else σ q
def gJ (neg:Bool) (arg:Int) (path:List Int):Nat→dJ→dJ
 | 0,σ=>σ.hJ (bq arg []) ((σ (bq arg [])).need neg)
 | j+1,σ=>
  let Ai:=gJ neg arg path j σ
  let here:=bq arg (path.take j)
  let L2:=Ai.hJ here ((Ai here).slot (path.getD j 0))
  let there:=bq arg (path.take (j+1))
  L2.hJ there ((L2 there).need neg)
def addLit (σ:dJ) (x:ch):dJ:=
 let Ai:=gJ x.2 x.1.arg x.1.path x.1.path.length σ
 let here:=bq x.1.arg x.1.path
 Ai.hJ here ((Ai here).ask x)
def vZ:dJ:=fun _=>iH
def ec (l:List ch):dJ:=l.foldl addLit vZ
def iu (sp:List Int):af:=jU .i64 sp
def hT (w:bw) (mb:Nat):af := .bs [fR w,.map mb] 0
def ke (k:de) (eY bj:af):List af:=[.int .i64 k.low,.int .i64 k.high,eY,.int .u64 (k.fE:Int),.int .u64 (k.no:Int),.bool k.whole,.bool k.gb,bj]
def L3:List af:=ke iH (.ay 1 [] .nil) (.ay 0 [] .nil)
abbrev SMap:=List (List Int×af)
def qs (mb:Nat) (es:SMap):bN×ds:=(.own mb,.map (l1 .i64 es))
theorem L4 (Gs nM:af) (Vf:aR (.ay 0 [] .nil) Gs) (u6:aR (.ay 0 [] .nil) nM) (w:bw) (mb:Nat) (es:SMap) (pw:∀ e∈es,e.1.length=4) (hz dV dg dB:Int):bz d0 280 [hT w mb,iu [hz,dV,dg,dB]] ([qs mb es]) (fun o K=>(∃ e,es.find? (fun e=>e.1==[hz,dV,dg,dB])=some e∧o = .ret e.2∧K=[qs mb es])∨(es.find? (fun e=>e.1==[hz,dV,dg,dB])=none∧∃ Gt,o = .ret (.ptr Gt 0)∧K=[qs mb (es++[([hz,dV,dg,dB],.ptr Gt 0)]),(.own Gt,.box 340 (ke iH Gs nM))])):=by
 have an:=bC;refine bz.bn aj Tryz.func280 C C fun s I=>?_
 unfold qs at I ⊢;unfold hT;unfold fR e1
 repeat (first|(refine q4 ?_)|refine aa.jE I C C C C C C (fun b I=>?_)|(refine R2 I ?_;clear I;intro I))
 refine aL.xM (xs:=[hz,dV,dg,dB]) aj I L1 C C C C C C C C C C pw aV C ?_;cases a1:es.find? (fun e=>e.1==[hz,dV,dg,dB]) with
 | some e=>
  simp only [am3];refine cD ?_;exact Fin.bu I C aM a7 (.inl ⟨e,rfl,rfl,rfl⟩)
 | none=>
  simp only [aq']
  repeat (first
   | refine aL.step C ?_
   | refine aL.nil ?_)
  repeat (first|(refine q4 ?_)|refine aa.jE I C C C C C C (fun b I=>?_)|(refine R3 ?_))
  refine ae.vt I b (ke iH Gs nM) .here (.cons aM (.cons aM (.cons Vf (.cons aM (.cons aM (.cons aM (.cons aM (.one u6)))))))) (fun I=>?_);refine sv I ?_;intro I;refine aL.Af (xs:=[hz,dV,dg,dB]) aj I L1 C C C (.inl C) C C C C C C pw aV a1 (fun I=>?_);refine gO ?_;exact Fin.bu I C aM a7 (.inr ⟨by first|rfl|trivial,_,rfl,rfl⟩)
theorem L5 (a CP kB bx:Int):aU d0 281 [iu [a,0,CP,kB],.int .i64 bx] (iu [a,1,bx,kB]):=by
 have an:=bC;refine aU.bn aj Tryz.func281 C C fun s I=>?_
 unfold iu jU
 repeat (first|(refine q4 ?_)|refine aa.jE I C C C C C C (fun b I=>?_)|refine aa.dO aj I C C C C C C C (fun cy I=>?_)|(refine E7 I ?_;clear I;intro I))
 refine aa.arr aj 0 C C C C C C C C C C ag ?_;refine cm I ?_;intro I;exact Fin.cL I (pc C C (bl.get aV I) C) aM
theorem L6 (a CP kB bx:Int):aU d0 281 [iu [a,1,CP,kB],.int .i64 bx] (iu [a,2,CP,bx]):=by
 have an:=bC;refine aU.bn aj Tryz.func281 C C fun s I=>?_
 unfold iu jU
 repeat (first|(refine q4 ?_)|refine aa.jE I C C C C C C (fun b I=>?_)|refine aa.dO aj I C C C C C C C (fun cy I=>?_)|(refine E7 I ?_;clear I;intro I))
 refine aa.arr aj 1 C C C C C C C C C C ag ?_;refine cm I ?_;intro I;exact Fin.cL I (pc C C (bl.get aV I) C) aM
def oG (kb:Nat) (k:de) (on:bN) (nM:af):a6:=[(.own kb,.box 340 (ke k (.ay 1 (k.eY.map bb) on) nM)),(on,.row 3 1 k.eY.length)]
structure Vg (k:de):Prop where
 fE:k.fE<2^64
 no:k.no<2^64
 eY:k.eY.length<bt
structure sU (w:bw) (x:ch):Prop where
 nB:gR w x.1=true
 leaf:x.1.c7=true
theorem sU.node {w:bw} {x:ch} (h:sU w x):hi w x.1=true:=by
 have:=h.nB;rw [pd,f6] at this;exact this.1
theorem sU.num {w:bw} {x:ch} (h:sU w x) : -1000000000≤x.1.n∧x.1.n≤1000000000:=by
 have U:=h.node;simp only [hi,h.leaf,ae2,f6,g8] at U;have pq:=U.2.2.2.2.2.2.2;split at pq
 ·simp at pq;omega
 ·simp [j8] at pq;omega
theorem hH.n {P:Program} {Γ:cj} {N:Nat} {l:List Oper} {Q:bX→Env→ak→Prop} {m:Nat} {env:Env} {s:ak}:hH P Γ N l Q m env s []:=trivial
theorem hH.c {P:Program} {Γ:cj} {N:Nat} {l:List Oper} {Q:bX→Env→ak→Prop} {m:Nat} {env:Env} {s:ak} {i:Nat} {is:List Nat} (h:jR P Γ N l Q m env s i) (t:hH P Γ N l Q m env s is):hH P Γ N l Q m env s (i::is):=⟨h,t⟩
theorem Vh (w:bw) (hw:w.ps.length≤60) (kb:Nat) (k:de) (aD:Vg k) (eZ : -1000000000≤k.low∧k.low≤1000000000 ∧ -1000000001≤k.high∧k.high≤1000000000) (on:bN) (nM:af) (u6:e4 nM=true) (x:ch) (ab:sU w x):bz d0 282 [.ptr kb 0,hR x] (oG kb k on nM) (fun o K=>o = .ret (.cg [])∧∃ v7,K=oG kb (k.ask x) v7 nM):=by
 have an:=bC;refine bz.bn aj Tryz.func282 C C fun s I=>?_
 obtain ⟨cv,db,e8⟩:=aD;have iz:=xL.of ab.node ab.leaf;have nN:=ab.num;have im:=ab.leaf;obtain ⟨f,neg⟩:=x;simp only at iz nN im;unfold oG at I ⊢;have bV:f.op=2∨f.op=3∨f.op=4:=by
  unfold aq.c7 at im;simp at im;omega
 unfold ke at I ⊢;unfold hR pj aq.cells;rcases bV with ad|ad|ad
 ·obtain ⟨cP,c9⟩:=iz.cls ad
  obtain ⟨c,aF⟩:∃ c:Nat,f.cls=c:=⟨f.cls.toNat,by omega⟩;have L7:c<64:=by omega
  have kv:=zU k.no c db L7;have kp:=zU k.fE c cv L7;have a8:k.ask (f,neg)=if neg then { k with no:=k.no|||2^c } else { k with fE:=k.fE|||2^c }:=by
   unfold de.ask;rw [f9 ad,aF,ac3]
  rw [ad,aF];cases neg with
  | true=>
   rw [f9 C] at a8;rw [a8];refine ha I ?_;intro I;exact Fin.bu I C aM a7 ⟨rfl,on,rfl⟩
  | false=>
   rw [f0 bc] at a8;rw [a8];refine ha I ?_;intro I;exact Fin.bu I C aM a7 ⟨rfl,on,rfl⟩
 ·have a8:k.ask (f,neg)=if neg then { k with low:=max k.low f.n } else { k with high:=min k.high (f.n-1),whole:=true }:=by
   unfold de.ask;rw [f0 (by simp [ad]),f9 ad]
  rw [ad];cases neg with
  | true=>
   rw [f9 C] at a8;rw [a8];have e:(if f.n>k.low then f.n else k.low)=max k.low f.n:=by omega
   refine ha I ?_;intro I;exact Fin.bu I C aM (by rw [← e];exact a7) ⟨rfl,on,rfl⟩
  | false=>
   rw [f0 bc] at a8;rw [a8];have eg:aa' .i64 (f.n-1)=f.n-1:=er ag ag;have e:(if f.n-1<k.high then f.n-1 else k.high)=min k.high (f.n-1):=by omega
   refine bG ?_;refine ae.qZ aj mixed C (ba.run C ?_);refine ba.ey 6 aj I C C C C C C C C aV b1 ?_;refine ba.run C ?_;refine ba.pure 11 C C C C C (.x C) ?_;refine ba.run C ?_;refine ba.cN 15 aj I C C C C C C C C C C C aV b1 (fun I=>?_);refine ba.run C ?_;refine ba.cN 18 aj I C C C C C C C C C C C aV b1 (fun I=>?_);refine ba.run C ?_;refine ba.done C ?_;refine gg ?_;have ub:Ok s (oG kb { k with high:=(if aa' .i64 (f.n-1)<k.high then aa' .i64 (f.n-1) else k.high),whole:=true } on nM):=I;rw [eg,e] at ub;exact Fin.bu (L:=oG kb { k with high:=(if aa' .i64 (f.n-1)<k.high then aa' .i64 (f.n-1) else k.high),whole:=true } on nM) I C aM (by rw [eg,e];exact aH.all _) ⟨rfl,on,rfl⟩
 ·rw [ad]
  cases neg with
  | true=>
   have a8:k.ask (f,true)={ k with eY:=k.eY++[f.n] }:=by
    unfold de.ask;rw [f0 (by simp [ad]),f0 (by simp [ad]),f9 C]
   rw [a8];refine bG ?_;refine ae.qZ aj mixed C (ba.run C ?_);refine ba.ey 5 aj I C C C C C C C C aV b1 ?_;refine ba.run C ?_;refine ba.gq 10 aj I C C C C C C C C C ef C C C C C C C C aV h7 kX ag (fun Aj I=>?_);refine ba.run C ?_;refine ba.cN 14 aj I C C C C C C C C C C C aV b1 (fun I=>?_);refine ba.run C ?_;refine ba.done C ?_;refine gg ?_;have eE:oG kb { k with eY:=k.eY++[f.n] } (.own Aj) nM=[(.own kb,.box 340 [.int .i64 k.low,.int .i64 k.high,.ay 1 (k.eY.map bb++[.int .i64 f.n]) (.own Aj),.int .u64 (k.fE:Int),.int .u64 (k.no:Int),.bool k.whole,.bool k.gb,nM]),(.own Aj,.row 3 1 (k.eY.length+1))]:=by
    unfold oG ke;simp [bb]
   exact Fin.bu I C aM (K:=oG kb { k with eY:=k.eY++[f.n] } (.own Aj) nM) (by rw [eE];exact a7) ⟨rfl,.own Aj,rfl⟩
  | false=>
   have a8:k.ask (f,false)={ k with low:=max k.low f.n,high:=min k.high f.n,whole:=true }:=by
    unfold de.ask;rw [f0 (by simp [ad]),f0 (by simp [ad]),f0 bc]
   rw [a8];have b7:(if f.n>k.low then f.n else k.low)=max k.low f.n:=by omega
   have bR:(if f.n<k.high then f.n else k.high)=min k.high f.n:=by omega
   refine bG ?_;refine ae.qZ aj mixed C (ba.run C ?_);refine ba.many C (hH.c (jR.mk (i:=7) C C C C (aW.ey aj I C C C aV C (X:=fun _ _=>False)) ?_ (fun _ _ h=>False.elim h)) (hH.c (jR.mk (i:=16) C C C C (aW.ey aj I C C C aV C (X:=fun _ _=>False)) ?_ (fun _ _ h=>False.elim h)) hH.n))
   ·rintro _ _ ⟨rfl,rfl⟩
    refine ba.pure 11 C C C C C (.x C) ?_;refine ba.run C ?_;refine ba.many C (hH.c (jR.mk (i:=16) C C C C (aW.ey aj I C C C aV C (X:=fun _ _=>False)) ?_ (fun _ _ h=>False.elim h)) hH.n)
    ·rintro _ _ ⟨rfl,rfl⟩
     refine ba.pure 20 C C C C C (.x C) ?_;refine ba.run C ?_;refine ba.cN 24 aj I C C C C C C C C C C C aV b1 (fun I=>?_);refine ba.run C ?_;refine ba.cN 28 aj I C C C C C C C C C C C aV b1 (fun I=>?_);refine ba.run C ?_;refine ba.cN 31 aj I C C C C C C C C C C C aV b1 (fun I=>?_);refine ba.run C ?_;refine ba.done C ?_;refine gg ?_;exact Fin.bu I C aM (by rw [← b7,← bR];exact a7) ⟨rfl,on,rfl⟩
   ·rintro _ _ ⟨rfl,rfl⟩
    refine ba.pure 20 C C C C C (.x C) ?_;refine ba.run C ?_;refine ba.many C (hH.c (jR.mk (i:=7) C C C C (aW.ey aj I C C C aV C (X:=fun _ _=>False)) ?_ (fun _ _ h=>False.elim h)) hH.n)
    ·rintro _ _ ⟨rfl,rfl⟩
     refine ba.pure 11 C C C C C (.x C) ?_;refine ba.run C ?_;refine ba.cN 24 aj I C C C C C C C C C C C aV b1 (fun I=>?_);refine ba.run C ?_;refine ba.cN 28 aj I C C C C C C C C C C C aV b1 (fun I=>?_);refine ba.run C ?_;refine ba.cN 31 aj I C C C C C C C C C C C aV b1 (fun I=>?_);refine ba.run C ?_;refine ba.done C ?_;refine gg ?_;exact Fin.bu I C aM (by rw [← b7,← bR];exact a7) ⟨rfl,on,rfl⟩
end Go.Proofs.YtnafpeohfbglmaaGreat
