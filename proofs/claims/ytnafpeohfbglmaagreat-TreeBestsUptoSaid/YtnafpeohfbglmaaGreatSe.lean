import Derived.Test.YtnafpeohfbglmaaGreatSd
import Derived.WideKeyRuns
set_option linter.unusedVariables false
set_option linter.unusedSimpArgs false
set_option maxRecDepth 100000
set_option maxHeartbeats 4000000
open Array renaming length_toList→ae9,toList_push→as7
open Bool renaming and_eq_true→f8,and_true→aq5,eq_false_iff→ah4,eq_iff_iff→af7,false_and→f9,or_eq_true→aj1,or_false→am3,true_and→f5
open Int renaming le_refl→ak9,toNat_natCast→ae1
open Go.IntKind renaming wrap→t7
open List renaming all_cons→ak6,all_eq_true→ah2,all_nil→ao3,append_assoc→ah0,append_nil→d6,cons_append→aa',drop_zero→am6,eq_nil_of_length_eq_zero→ai8,find?_cons→ay1,foldl_append→ao0,getD_eq_getElem?_getD→d7,getElem?_append_left→ag0,getElem?_append_right→af4,getElem?_eq_getElem→f7,getElem?_eq_none→am5,getElem?_map→ae4,isEmpty→ap',length_append→f6,length_cons→g9,length_drop→ai1,length_filter_le→aj2,length_map→d9,length_nil→af6,length_replicate→af3,length_singleton→ag8,length_take_le'→al0,length_take→ae8,map_append→ad',map_cons→ae3,map_nil→ah1,mem_append→ae',mem_cons_of_mem→i0,mem_cons_self→i6,mem_map→af',mem_of_getElem?→d5,mem_of_mem_take→ap0,mem_singleton→H1,nil_append→d8,range→ag3,replicate_succ'→ap1,replicate_zero→av7,replicate→t6,set_append_right→al8,take_length→ae5,take_of_length_le→ag9,take_zero→al4
open Nat renaming and_comm→aD7,blt→t8,le_refl→g8,le_trans→am',lt_succ_self→aj6,min_eq_left→am8,mul_one→ag',or_lt_two_pow→aj4,pow_lt_pow_right→ai',zero_add→af5,zero_le→g7
open Option renaming getD_none→aB3,getD_some→af9,isSome_none→at7,isSome_some→aA4,map_none→at2,map_some→ao9
open Go.Result renaming andThen_ok→i5
open Go.Sem renaming run_bind→ac',run_pure→ae6
open Go.Proofs.Tryz renaming prog→d0
namespace Go.Proofs.YtnafpeohfbglmaaGreat
theorem u7 {p:Prop} (h:p:=by (first|rw [h7 (by omega)]|(rw [il aE,LX,jb,jb];congr 1;split<;>omega))):p:=h
theorem u9 {p:Prop} (h:p:=by show aG _ [(_,.row _ _ (xs (j+1)).length)] _;rw [cR];exact aG.dB _):p:=h
theorem Be {p:Prop} (h:p:=by simp only [List.length_nil,Nat.zero_add,List.length_map];show _*8≤_;omega):p:=h
theorem Bf {p:Prop} (h:p:=by show aG _ [(_,.row _ _ (xs (j+1)).length)] _;rw [ar];exact aG.dB _):p:=h
theorem u' {p:Prop} (h:p:=by (first|rfl|(rw [aC];simp [jb,a6 aC])|(rw [aC];simp [jb]))):p:=h
theorem yY {p:Prop} (h:p:=by simp only [List.length_nil,Nat.zero_add,List.length_map];omega):p:=h
theorem yZ {p:Prop} (h:p:=by show p.cm.length-(j+1)<p.cm.length-j;omega):p:=h
theorem D9 {p:Prop} (h:p:=by show w.owner.length-(j+1)<w.owner.length-j;omega):p:=h
theorem D' {p:Prop} (h:p:=by show c.bp.length-(k+1)<c.bp.length-k;omega):p:=h
theorem oR {p:Prop} (h:p:=by show f.kids.length-(j+1)<f.kids.length-j;omega):p:=h
theorem sx {p:Prop} (h:p:=by first|(simp_all [];done)|(simp_all []<;>omega)):p:=h
theorem xc {p:Prop} (h:p:=by (rw [dz (by omega) (by omega)])):p:=h
theorem n4 {p:Prop} (h:p:=by show l.length-(j+1)<l.length-j;omega):p:=h
theorem ld {p:Prop} (h:p:=by rw [ad];exact List.mem_cons_self):p:=h
theorem xd {p:Prop} (h:p:=by rw [bq];exact aG.dB _):p:=h
theorem va {p:Prop} (h:p:=by split<;>omega):p:=h
theorem sy {p:Prop} (h:p:=by rw [ad];simp):p:=h
section
variable {P:Program} {Γ:cA} {N:Nat} {ops:Array Oper} {Q:b9→Env→ao→Prop} {env:Env} {s:ao} {l:List Oper} {o:Oper} {d:Nat} {L R:a'}
def sA (b off n cap:Nat):ag := .hG (.slice (some ⟨b,off,none⟩) n cap)
theorem ML {t bI:TypeId} {x y:Operand} {a:Act} {val:Value} {w w':World} (ai:o.op = .call { callee := .builtin .copy,args := #[x,y],argTypes := #[t,bI] }) (h:(Builtin.copy_ #[t,bI] o.type #[a.eval x,a.eval y]).run P w = .ok val w') :
  (execOp a.eval o).run P w = .ok (.value val) w':=by
 unfold execOp;rw [ai];simp only [resolve,invoke,builtin,ac',ae6,i5,List.map_toArray,ae3,ah1,h]
theorem MM (I:Ok s L) {w:World} {p:bV} {b off:Nat} {e:TypeId} {cs ys:List ag} {us:List Value} {vs:Array Value} (cf:dx w p (aS s L)) (ar:bo L (.own b) (.box e cs) R) (cu:w.heap[b]? = some (.cells vs e (0,0))) (cL:bH w p vs.toList cs) (hu:bH w p us ys) (fr:off+ys.length≤cs.length) :
  dg w p (w.setRow b (vs.toList.take off++us++vs.toList.drop (off+us.length)).toArray) p∧Kept (aS s L) (aS s ((.own b,.box e (cs.take off++ys++cs.drop (off+ys.length)))::R)) w p (w.setRow b (vs.toList.take off++us++vs.toList.drop (off+us.length)).toArray) p ∧
   dx (w.setRow b (vs.toList.take off++us++vs.toList.drop (off+us.length)).toArray) p (aS s ((.own b,.box e (cs.take off++ys++cs.drop (off+ys.length)))::R))∧Ok s ((.own b,.box e (cs.take off++ys++cs.drop (off+ys.length)))::R):=by
 have m8:=hu.length;have q':=cL.length;have gW:bH w p (vs.toList.take off++us++vs.toList.drop (off+us.length)) (cs.take off++ys++cs.drop (off+ys.length)):=by
  rw [m8];exact bH.append (bH.append (cL.take _) hu) (cL.drop _)
 obtain ⟨dm,jG,ix⟩:=wm cf (ar.get I) (vs':=(vs.toList.take off++us++vs.toList.drop (off+us.length)).toArray) (cs':=cs.take off++ys++cs.drop (off+ys.length)) (fun AP bq=>by
  rw [cu] at bq;cases bq
  rw [ae9] at q'
  simp only [List.size_toArray,f6,ae8,ai1,ae9]
  omega) (by simpa using gW) _ C
 obtain ⟨f1,f2⟩:=ar.put (.box e (cs.take off++ys++cs.drop (off+ys.length))) I;rw [f1] at jG ix;exact ⟨dm,jG,ix,f2⟩
theorem aZ.HO (aP:bQ P Γ) (I:Ok s L) {t bI e:TypeId} {x y:Operand} {it aH:bO} {b off dl rD bY:Nat} {cs ys:List ag} {dr:bN}
  (ai:o.op = .call { callee := .builtin .copy,args := #[x,y],argTypes := #[t,bI] }) (aN:Γ.get? t=some it) (bt:it.bF = .aA e) (bJ:Γ.get? e=some aH) (U:aH.size=1) (ab:aM env x=some (sA b off dl rD)) (ar:bo L (.own b) (.box e cs) R)
  (ay:aM env y=some (.aA bY ys dr)) (de:bY=1) (dC:ys.all fe=true) (ax:ys.length≤dl) (fr:off+ys.length≤cs.length) {X:ag→ao→Prop} :
  aZ P N o env (aS s L) (fun r aj=>r = .int .i64 ys.length∧aj=aS s ((.own b,.box e (cs.take off++ys++cs.drop (off+ys.length)))::R)∧Ok s ((.own b,.box e (cs.take off++ys++cs.drop (off+ys.length)))::R)) X:=by
 refine aZ.kB iW fun ro B a w p aI=>?_
 have gp:=aI.aM ab;have fs:=aI.aM ay;have eQ:=fun val w'=>ML (P:=P) (a:=a) (val:=val) (w:=w) (w':=w') ai
 generalize ep:a.eval x=dR at gp eQ;generalize e9:a.eval y=fW at fs eQ;cases gp;obtain ⟨info,d,g1,g2,g3,-⟩:=aP.parts aN;obtain ⟨j1,kC,cE,dq,fl,eK,j2,jz⟩:=aP.parts bJ;have cp:d = .slice e:=by rw [bt] at g3;cases d<;>simp [eB] at g3;rw [g3]
 subst cp;subst de;obtain ⟨us,iv,qb,j3,kn,tm,tn,tp⟩:=q9 (sz':=1) fs (.inr rfl);have m8:=iv.length;have mI:∀ x∈us,x.oneCell'=true:=q6 iv dC;have tE:flat us=us:=tD mI;obtain ⟨vs,cu,cL,dT⟩:=aI.wf.obj _ _ (ar.get I);have q':=cL.length;rw [ae9] at q';have aC:=j3 P;have a7:=kn P w (fun _ _ _=>rfl);rw [tE] at a7;have wL:=run_storeCells_at P b off e us 0 vs w cu af mI;simp only [Nat.add_zero] at wL;have Vn:Nat.min ys.length dl=ys.length:=am8 ax;have cS:(Builtin.copy_ #[t,bI] o.type #[.slice (some ⟨b,off,none⟩) dl rD,fW]).run P w = .ok (.int .i64 ys.length) (w.setRow b (vs.toList.take off++us++vs.toList.drop (off+us.length)).toArray):=by
  simp [Builtin.copy_,run_underlying g2,sizeOf,typeInfo,cE,eK,U,aC,Vn,a7,wL,goInt]
 obtain ⟨ea,dj,dQ,m5⟩:=MM I aI.wf ar cu cL iv fr;exact ⟨_,_,_,p,_,eQ _ _ cS,ea,dj,dQ,⟨rfl,rfl,m5⟩,.int _ _⟩
theorem aZ.Bg (aP:bQ P Γ) (I:Ok s L) {t bI e:TypeId} {x y:Operand} {it aH:bO} {b off dl rD jK bu y0 k:Nat} {cs:List ag}
    (ai:o.op = .call { callee := .builtin .copy,args := #[x,y],argTypes := #[t,bI] }) (aN:Γ.get? t=some it) (bt:it.bF = .aA e) (bJ:Γ.get? e=some aH) (U:aH.size=1) (ab:aM env x=some (sA b off dl rD)) (ar:bo L (.own b) (.box e cs) R)
    (ay:aM env y=some (sA b jK bu y0)) (aE:k=min bu dl) (dC:((cs.drop jK).take k).all fe=true) (ad:jK+k≤cs.length) (fr:off+k≤cs.length) {X:ag→ao→Prop} :
    aZ P N o env (aS s L) (fun r aj=>r = .int .i64 k∧aj=aS s ((.own b,.box e (cs.take off++(cs.drop jK).take k++cs.drop (off+k)))::R)∧Ok s ((.own b,.box e (cs.take off++(cs.drop jK).take k++cs.drop (off+k)))::R)) X:=by
  refine aZ.kB iW fun ro B a w p aI=>?_
  have gp:=aI.aM ab;have fs:=aI.aM ay;have eQ:=fun val w'=>ML (P:=P) (a:=a) (val:=val) (w:=w) (w':=w') ai
  generalize ep:a.eval x=dR at gp eQ;generalize e9:a.eval y=fW at fs eQ;cases gp;cases fs;obtain ⟨info,d,g1,g2,g3,-⟩:=aP.parts aN;obtain ⟨j1,kC,cE,dq,fl,eK,j2,jz⟩:=aP.parts bJ;have cp:d = .slice e:=by rw [bt] at g3;cases d<;>simp [eB] at g3;rw [g3]
  subst cp;obtain ⟨vs,cu,cL,dT⟩:=aI.wf.obj _ _ (ar.get I);have q':=cL.length;have ti:bH w p ((vs.toList.drop jK).take k) ((cs.drop jK).take k):=(cL.drop _).take _;have mI:=q6 ti dC;have kF:((vs.toList.drop jK).take k).length=k:=by rw [ae8,ai1];omega
  have cy:((cs.drop jK).take k).length=k:=by rw [ae8,ai1];omega
  rw [ae9] at q'
  have cS:=run_copy_row P w t bI o.type e b off dl rD ⟨b,jK,none⟩ bu y0 vs e ((vs.toList.drop jK).take k) g2 (by rw [cE];simp [eK,U]) cu (by rw [kF,aE]) (fun j u hu=>by
    rw [lB,jO cu]
    rw [List.getElem?_take] at hu
    split at hu
    · rw [List.getElem?_drop] at hu
      simpa using hu
    · cases hu) (by rw [kF];omega) mI
  rw [kF] at cS;obtain ⟨ea,dj,dQ,m5⟩:=MM (off:=off) I aI.wf ar cu cL ti (by rw [cy];exact fr);rw [kF] at ea dj dQ;rw [cy] at dj dQ m5;exact ⟨_,_,_,p,_,eQ _ _ cS,ea,dj,dQ,⟨rfl,rfl,m5⟩,.int _ _⟩
theorem aa.HO (aP:bQ P Γ) (I:Ok s L) {t bI e:TypeId} {x y:Operand} {it aH:bO} {b off dl rD bY:Nat} {cs ys:List ag} {dr:bN} (av:guardOf ops env o=some true) (ax:o.dst=some d) (aU:t8 d N=true)
  (ai:o.op = .call { callee := .builtin .copy,args := #[x,y],argTypes := #[t,bI] }) (aN:Γ.get? t=some it) (bt:it.bF = .aA e) (bJ:Γ.get? e=some aH) (U:aH.size=1) (ab:aM env x=some (sA b off dl rD)) (ar:bo L (.own b) (.box e cs) R)
  (ay:aM env y=some (.aA bY ys dr)) (de:bY=1) (dC:ys.all fe=true) (pS:ys.length≤dl) (fr:off+ys.length≤cs.length)
  (h:Ok s ((.own b,.box e (cs.take off++ys++cs.drop (off+ys.length)))::R)→aa P N ops l Q ((d,.int .i64 ys.length)::env) (aS s ((.own b,.box e (cs.take off++ys++cs.drop (off+ys.length)))::R))):aa P N ops (o::l) Q env (aS s L):=
 aa.op av ax aU (aZ.HO aP I ai aN bt bJ U ab ar ay de dC pS fr (X:=fun _ _=>False)) (fun x aj ⟨U,ad,al⟩=>by subst U;subst ad;exact h al) (fun _ _ h=>h.elim)
theorem aa.Bg (aP:bQ P Γ) (I:Ok s L) {t bI e:TypeId} {x y:Operand} {it aH:bO} {b off dl rD jK bu y0:Nat} (k:Nat) {cs:List ag} (av:guardOf ops env o=some true) (ax:o.dst=some d) (aU:t8 d N=true)
  (ai:o.op = .call { callee := .builtin .copy,args := #[x,y],argTypes := #[t,bI] }) (aN:Γ.get? t=some it) (bt:it.bF = .aA e) (bJ:Γ.get? e=some aH) (U:aH.size=1) (ab:aM env x=some (sA b off dl rD)) (ar:bo L (.own b) (.box e cs) R)
  (ay:aM env y=some (sA b jK bu y0)) (aE:k=min bu dl) (dC:((cs.drop jK).take k).all fe=true) (ad:jK+k≤cs.length) (fr:off+k≤cs.length)
  (h:Ok s ((.own b,.box e (cs.take off++(cs.drop jK).take k++cs.drop (off+k)))::R)→aa P N ops l Q ((d,.int .i64 k)::env) (aS s ((.own b,.box e (cs.take off++(cs.drop jK).take k++cs.drop (off+k)))::R))):aa P N ops (o::l) Q env (aS s L):=
 aa.op av ax aU (aZ.Bg aP I ai aN bt bJ U ab ar ay aE dC ad fr (X:=fun _ _=>False)) (fun x aj ⟨U,ad,al⟩=>by subst U;subst ad;exact h al) (fun _ _ h=>h.elim)
theorem bg.Bg {J:ao→Prop} {m:Nat} (i:Nat) (aP:bQ P Γ) (I:Ok s L) {t bI e:TypeId} {x y:Operand} {it aH:bO} {b off dl rD jK bu y0:Nat} (k:Nat) {cs:List ag} (aD:eJ l.toArray m (idxs 0 l)=[i]) (aR:l.toArray[i]? = some o) (ax:o.dst=some d) (aU:t8 d N=true)
  (av:c6 l env o)
  (ai:o.op = .call { callee := .builtin .copy,args := #[x,y],argTypes := #[t,bI] }) (aN:Γ.get? t=some it) (bt:it.bF = .aA e) (bJ:Γ.get? e=some aH) (U:aH.size=1) (ab:aM (b4 l env o) x=some (sA b off dl rD)) (ar:bo L (.own b) (.box e cs) R)
  (ay:aM (b4 l env o) y=some (sA b jK bu y0)) (aE:k=min bu dl) (dC:((cs.drop jK).take k).all fe=true) (ad:jK+k≤cs.length) (fr:off+k≤cs.length)
  (aL:Ok s ((.own b,.box e (cs.take off++(cs.drop jK).take k++cs.drop (off+k)))::R)→J (aS s ((.own b,.box e (cs.take off++(cs.drop jK).take k++cs.drop (off+k)))::R))∨kI l.toArray i=true)
  (h:Ok s ((.own b,.box e (cs.take off++(cs.drop jK).take k++cs.drop (off+k)))::R)→bg J P Γ N l.toArray Q (bZ (m|||2^i)) ((d,.int .i64 k)::env) (aS s ((.own b,.box e (cs.take off++(cs.drop jK).take k++cs.drop (off+k)))::R))):bg J P Γ N l.toArray Q (bZ m) env (aS s L):=
 bg.one aD aR ax aU av (aZ.Bg aP I ai aN bt bJ U ab ar ay aE dC ad fr (X:=fun _ _=>False)) (fun x aj ⟨U,ad,al⟩=>by subst U;subst ad;exact aL al) (fun x aj ⟨U,ad,al⟩=>by subst U;subst ad;exact h al) (fun _ _ h=>h.elim)
theorem aZ.HP (aP:bQ P Γ) {t e:TypeId} {x y:Operand} {it aH:bO} {b n cap k:Nat} {rr:IntKind} (ai:o.op = .slice t x (some y) none none) (aN:Γ.get? t=some it) (bt:it.bF = .aA e) (bJ:Γ.get? e=some aH) (U:aH.size=1) (ab:aM env x=some (ee b n cap)) (ay:aM env y=some (.int rr (k:Int))) (aE:k≤n) (az:n≤cap) (CU:k<cap) :
  aZ P N o env s (fun x aj=>x=sA b k (n-k) (cap-k)∧aj=s) (fun _ _=>False):=by
 refine aZ.m0 iW fun ro B a w p aI=>?_
 obtain ⟨info,d,g1,g2,g3,-⟩:=aP.parts aN;obtain ⟨j1,kC,cE,dq,fl,eK,-⟩:=aP.parts bJ;have ax:d = .slice e:=by rw [bt] at g3;cases d<;>simp [eB] at g3;rw [g3]
 subst ax;have aD:=aI.aM ab;have fs:=aI.aM ay;generalize ep:a.eval x=dR at aD;generalize e9:a.eval y=fW at fs;cases aD;cases fs;refine .same (val := .slice (some ⟨b,k,none⟩) (n-k) (cap-k)) ?_ (.hG _);unfold execOp;rw [ai];simp only [ep,at2,ao9,e9];refine gV ?_;have lF:(k:Int)≤(n:Int):=by omega
 have tR:(n:Int)≤(cap:Int):=by omega
 have an:(Instr.sliceBounds true n cap (some (.int rr (k:Int))) none none).run P w = .ok (k,n,cap) w:=by
  simp [Instr.sliceBounds,run_sliceBound,lF,tR]
 have bq:cap-k≠0:=by omega
 simp only [Instr.sliceAt,Instr.slice,ac',run_underlying g2,i5,an,sizeOf,typeInfo,run_program,cE,ae6,eK,U];simp [bq,lB];intro cY;omega
theorem bg.HP {J:ao→Prop} {m:Nat} (i:Nat) (aP:bQ P Γ) (cO:J s) {t e:TypeId} {x y:Operand} {it aH:bO} {b n cap:Nat} (k:Nat) {rr:IntKind} (aD:iI l.toArray m i=true) (aR:l.toArray[i]? = some o) (ax:o.dst=some d) (aU:t8 d N=true)
  (av:c6 l env o) (ai:o.op = .slice t x (some y) none none) (aN:Γ.get? t=some it) (bt:it.bF = .aA e) (bJ:Γ.get? e=some aH) (U:aH.size=1) (ab:aM (b4 l env o) x=some (ee b n cap)) (ay:aM (b4 l env o) y=some (.int rr (k:Int))) (aE:k≤n) (az:n≤cap) (CU:k<cap)
  (h:bg J P Γ N l.toArray Q (bZ (m|||2^i)) ((d,sA b k (n-k) (cap-k))::env) s):bg J P Γ N l.toArray Q (bZ m) env s:=
 bg.si cO aD aR ax aU av (fun _ _=>aZ.HP aP ai aN bt bJ U ab ay aE az CU) h
theorem bg.AT {J:ao→Prop} {m:Nat} (i:Nat) (aP:bQ P Γ) (cO:J s) {t e:TypeId} {x y:Operand} {it aH:bO} {b n cap:Nat} (k:Nat) {rr:IntKind} (aD:iI l.toArray m i=true) (aR:l.toArray[i]? = some o) (ax:o.dst=some d) (aU:t8 d N=true)
  (av:c6 l env o) (ai:o.op = .slice t x none (some y) none) (aN:Γ.get? t=some it) (bt:it.bF = .aA e) (bJ:Γ.get? e=some aH) (ab:aM (b4 l env o) x=some (ee b n cap)) (ay:aM (b4 l env o) y=some (.int rr (k:Int))) (aE:k≤cap)
  (h:bg J P Γ N l.toArray Q (bZ (m|||2^i)) ((d,ee b k cap)::env) s):bg J P Γ N l.toArray Q (bZ m) env s:=
 bg.si cO aD aR ax aU av (fun _ _=>aZ.AT aP ai aN bt bJ ab ay aE) h
end
section
variable {J:ao→Prop} {P:Program} {Γ:cA} {N:Nat} {Q:b9→Env→ao→Prop} {env:Env} {s:ao} {l:List Oper} {o:Oper} {d m:Nat}
theorem bg.sB (i:Nat) (cO:J s) {g:Operand} {name:String} {f':Array Operand} {da:Array TypeId} {t:TypeId} {v:ag} {f:FuncId} {xs:List ag} {r:ag} (aD:iI l.toArray m i=true) (aR:l.toArray[i]? = some o) (ax:o.dst=some d) (aU:t8 d N=true)
  (av:c6 l env o) (ai:o.op = .call { callee := .invoke g name,args:=f',argTypes:=da }) (aw:aM (b4 l env o) g=some (.iface t v)) (a6:fX (b4 l env o) f'.toList=some xs) (hm:qf P t name f) (h:aT P f (v::xs) r)
  (aE:bg J P Γ N l.toArray Q (bZ (m|||2^i)) ((d,r)::env) s):bg J P Γ N l.toArray Q (bZ m) env s:=
 bg.si cO aD aR ax aU av (fun s _=>(aZ.invoke ai aw a6 hm (h s)).mono (fun x aj h=>by cases h.1;exact ⟨rfl,h.2⟩) (fun x aj h=>by cases h.1)) aE
end
section
variable {J:ao→Prop} {P:Program} {Γ:cA} {N:Nat} {l:List Oper} {i:Nat} {rest:List Oper} {Q:b9→Env→ao→Prop} {env:Env} {s:ao} {o:Oper} {d:Nat}
theorem aK.sB {g:Operand} {name:String} {f':Array Operand} {da:Array TypeId} {t:TypeId} {v:ag} {f:FuncId} {xs:List ag} {r:ag} (av:c6 l env o) (ax:o.dst=some d) (aU:t8 d N=true)
  (ai:o.op = .call { callee := .invoke g name,args:=f',argTypes:=da }) (aw:aM (b4 l env o) g=some (.iface t v)) (a6:fX (b4 l env o) f'.toList=some xs) (hm:qf P t name f) (h:aT P f (v::xs) r)
  (aE:aK J P Γ N l (i+1) rest Q ((d,r)::env) s):aK J P Γ N l i (o::rest) Q env s:=
 aK.calm av ax aU (fun s _=>(aZ.invoke ai aw a6 hm (h s)).mono (fun x aj h=>by cases h.1;exact ⟨rfl,h.2⟩) (fun x aj h=>by cases h.1)) aE
end
section
variable {J:ao→Prop} {P:Program} {Γ:cA} {N:Nat} {l:List Oper} {i:Nat} {rest:List Oper} {Q:b9→Env→ao→Prop} {env:Env} {s:ao} {o:Oper} {d:Nat}
theorem aK.gM {L R K:a'} {aef:eC→a'→Prop} {g:Operand} {fv:ag} {f':Array Operand} {da:Array TypeId} {xs:List ag} (av:c6 l env o) (ax:o.dst=some d) (aU:t8 d N=true) (ma:kI l.toArray i=true)
  (b3:o.op = .call { callee := .value g,args:=f',argTypes:=da }) (aw:aM (b4 l env o) g=some fv) (a6:fX (b4 l env o) f'.toList=some xs) (h:dA P fv xs K aef) (I:Ok s L) (ar:aG L K R)
  (aE:∀ x aO,aef (.ret x) aO→Ok s (aO++R)→Q .normal ((d,x)::env) (aS s (aO++R))) (ab:∀ x aO,aef (.panic x) aO→Ok s (aO++R)→Q (.panic x) [] (aS s (aO++R))):aK J P Γ N l i [o] Q env (aS s L):=
 aK.last av ax aU ma (aZ.gM b3 aw a6 h I ar) (fun x aj ⟨aO,U,ad,al⟩=>by subst U;exact aE x aO al ad) (fun x aj ⟨aO,U,ad,al⟩=>by subst U;exact ab x aO al ad)
end
section
variable {J:ao→Prop} {P:Program} {Γ:cA} {N:Nat} {l:List Oper} {i:Nat} {rest:List Oper} {Q:b9→Env→ao→Prop} {env:Env} {s:ao} {o:Oper} {d:Nat}
theorem aK.ej (aP:bQ P Γ) {t e:TypeId} {x y:Operand} {it aH:bO} {b n cap:Nat} {k:IntKind} {z:Int} (j:Nat) (av:c6 l env o) (ax:o.dst=some d) (aU:t8 d N=true)
  (ai:o.op = .indexAddr t x y) (aN:Γ.get? t=some it) (bt:it.bF = .aA e) (bJ:Γ.get? e=some aH)
  (ab:aM (b4 l env o) x=some (ee b n cap)) (ay:aM (b4 l env o) y=some (.int k z)) (eU:z=(j:Int)) (aL:j<n)
  (h:aK J P Γ N l (i+1) rest Q ((d,.ptr b (j*aH.size))::env) s):aK J P Γ N l i (o::rest) Q env s:=
 aK.calm av ax aU (fun _ _=>aZ.ej aP ai aN bt bJ ab ay eU aL) h
end
theorem MN:∀ {g:List bP} {len i k:Nat} {x:bP},tM len i g=true→g[k]? = some x→mM len (i+k) x=true
  | y::r,len,i,0,x,h,ab=>by
    rw [tM,f8] at h;simp at ab;subst ab;exact h.1
  | y::r,len,i,k+1,x,h,ab=>by
    rw [tM,f8] at h;have:=MN (k:=k) h.2 vU;rw [show i+(k+1)=i+1+k by omega];exact this
theorem xe {g:List bP} {k:Nat} {x:bP} (h:jI g=true) (ab:g[k]? = some x):mM g.length k x=true:=by
 unfold jI at h;simp only [f8] at h;have:=MN h.2.2 ab;rwa [af5] at this
theorem Bh {g:List bP} (h:jI g=true):1≤g.length∧g.length≤300:=by
 unfold jI at h;simp only [f8,i8] at h;exact ⟨h.1,h.2.1⟩
theorem Ea:∀ (g:List bP) (i:Nat),(gB i g).length=g.length
 | [],_=>rfl
 | x::r,i=>by rw [gB,g9,g9,Ea r]
theorem Eb {l:List Int} {j:Nat} {n:Int} (az:0≤n) (h:∀ v∈l,0≤v∧v≤n):0≤l.getD j 0∧l.getD j 0≤n:=by
 rw [d7];cases aL:l[j]? with
 | none=>exact ⟨ak9 _,az⟩
 | some v=>exact h v (d5 aL)
theorem Bi:∀ (g:List bP) (i:Nat),∀ v∈gB i g,0≤v∧v≤g.length
  | [],_,v,h=>by cases h
  | x::r,i,v,h=>by
    have a1:=Bi r (i+1);have U:=Eb (j:=x.no.toNat-(i+1)) af a1;have ad:=Eb (j:=x.yes.toNat-(i+1)) af a1;rw [gB] at h;rw [g9];rcases List.mem_cons.1 h with rfl|h
    · split<;>omega
    · have:=a1 v h;omega
def jB (g:List bP) (j:Nat):List Int:=t6 j 0++gB j (g.drop j)
theorem MO {g:List bP} {j:Nat} (h:j≤g.length):(jB g j).length=g.length:=by
 unfold jB;rw [f6,af3,Ea,ai1];omega
theorem MP {g:List bP} {k:Nat} {n:Int} (U:n>(k:Int)) (ad:n<(g.length:Int)):((jB g (k+1)).map a8)[n.toNat*1]? = some (.int .i64 ((gB (k+1) (g.drop (k+1))).getD (n.toNat-(k+1)) 0)):=by
 have aC:n.toNat<(jB g (k+1)).length:=by rw [MO af];omega
 unfold jB at aC ⊢;rw [ag',ae4,af4 cV,af3,d7];rw [f6,af3] at aC;rw [f7 af];rfl
theorem Vo {g:List bP} {k:Nat} {x:bP} {v:Int} (ab:g[k]? = some x) (a6:x.atom≥0) (aw:v=1+max ((gB (k+1) (g.drop (k+1))).getD (x.no.toNat-(k+1)) 0) ((gB (k+1) (g.drop (k+1))).getD (x.yes.toNat-(k+1)) 0)) :
  eM (k*1) [.int .i64 v] ((jB g (k+1)).map a8)=(jB g k).map a8:=by
 rw [mQ,ag'];unfold jB;rw [drop_cons ab,gB,g6 a6,← aw,ap1,ah0,ad',ad',al8 _ _ ba];simp [a8]
theorem Vp {g:List bP} {k:Nat} {x:bP} (ab:g[k]? = some x) (a6:¬ x.atom≥0):jB g (k+1)=jB g k:=by
 unfold jB;rw [drop_cons ab,gB,f0 a6,ap1,ah0];rfl
theorem Vq (g:List bP) (av:g.length<bC):aT d0 18 [hv g] (.cw [.int .i64 (if jI g then gZ g else 0),.int .i64 (if jI g then 0 else 2)]):=by
 have an:=bD;refine aT.bh ah Tryz.func18 C C fun s I=>?_
 have a7:=HK g av;unfold hv at *;cases mR:jI g with
 | false=>
  rw [mR] at a7;refine b' ?_;exact bB I
 | true=>
 rw [mR] at a7;obtain ⟨lC,eT⟩:=Bh mR;have iK:((g.map eN).length:Int)=(g.length:Int):=by rw [d9]
 refine b' ?_;refine aa.rC ah I g.length C C C C C C C C C C (ae7 (fun z=>some (ag.int .i64 z)) iK) (ae7 (fun z=>some (ag.int .i64 z)) iK) (by show _*8≤_;omega) af (fun b I=>?_);rw [show t6 g.length (ag.int .i64 0)=(jB g g.length).map a8 by unfold jB;rw [eD (g8 _),gB,d6,List.map_replicate];rfl] at I ⊢;refine bl ?_;have hw:t7 .i64 ((g.length:Int)-1)=(g.length:Int)-1:=dz af af;refine ae.b5 [0,4] C I (σ:=Nat) (fun j=>[(5,.int .i64 ((j:Int)-1))]) (fun j=>[(.own b,.box 3 ((jB g j).map a8))]) (fun j=>j≤g.length) (fun j=>j) g.length (g8 _) (by repeat (first|exact trivial|refine ⟨⟨_,rfl,aJ⟩,?_⟩|refine ⟨⟨_,rfl,aQ.of_eq (by (rw [iK,hw]))⟩,?_⟩)) aX ?_;rintro j aL I;refine b7 ?_;cases j with
 | zero=>
  refine ae.cond C (fun h=>by simp at h) (fun _=>?_);refine bl ?_;refine aa.ej ah 0 C C C C C C C C C C af ?_
  refine aa.jd ah I C C C C C C aW C (v := .int .i64 (gZ g)) (by
   unfold jB gZ
   rw [am6,av7,d8,ae4,f7 (by rw [Ea];omega),d7,f7 (by rw [Ea];omega)];rfl) ?_
  refine er ?_;exact bB I
 | succ k=>
 have e:(((k+1:Nat):Int)-1)=(k:Int):=by omega
 rw [e];refine ae.cond C (fun _=>?_) (fun h=>by simp at h);obtain ⟨x,ab,bL⟩:=b8 (f:=eN) (show k<g.length by omega);have aU:=xe mR ab;unfold eN ha bd at bL;refine dG ?_;refine ae.cond C (fun a6=>?_) (fun a6=>?_);rotate_left
 ·have a6:¬ x.atom≥0:=by simpa using a6
  rw [Vp ab a6] at I ⊢;refine gx ?_;exact bn.mk k I (by show k≤g.length;omega) (by repeat (first|exact trivial|refine ⟨⟨_,rfl,aJ⟩,?_⟩|refine ⟨⟨_,rfl,aQ.of_eq xc⟩,?_⟩)) aX (by show k<k+1;omega)
 have a6:x.atom≥0:=by simpa using a6
 have eG:=(pR af).1 aU;have iT:=Eb (j:=x.no.toNat-(k+1)) (n:=300) af (fun v aw=>⟨(Bi (g.drop (k+1)) (k+1) v aw).1,by have:=(Bi (g.drop (k+1)) (k+1) v aw).2;rw [ai1] at this;omega⟩);have ac7:=Eb (j:=x.yes.toNat-(k+1)) (n:=300) af (fun v aw=>⟨(Bi (g.drop (k+1)) (k+1) v aw).1,by have:=(Bi (g.drop (k+1)) (k+1) v aw).2;rw [ai1] at this;omega⟩)
 have wj:=Vo ab a6 (v:=t7 .i64 (1+(if (gB (k+1) (g.drop (k+1))).getD (x.yes.toNat-(k+1)) 0>(gB (k+1) (g.drop (k+1))).getD (x.no.toNat-(k+1)) 0 then (gB (k+1) (g.drop (k+1))).getD (x.yes.toNat-(k+1)) 0 else (gB (k+1) (g.drop (k+1))).getD (x.no.toNat-(k+1)) 0))) (by
  rw [dz va va];split<;>omega)
 refine pD ?_;refine aK.ej ah x.no.toNat C C C C C C C C C af af ?_;refine aK.jd ah I C C C C C C aW C (MP eG.2.2.1 eG.2.2.2.1) ?_;refine c2 ?_;refine aK.ej ah x.yes.toNat C C C C C C C C C af af ?_;refine aK.jd ah I C C C C C C aW C (MP eG.2.2.2.2.1 eG.2.2.2.2.2.1) ?_;refine c2 ?_;refine aK.ej ah k C C C C C C C C C C af ?_;refine aK.hQ ah I _ C C C C C C C C C C aW (by rw [d9,MO af];show k*1+1≤_;omega) wj (fun I=>?_);refine gx ?_;exact bn.mk k I (by show k≤g.length;omega) (by repeat (first|exact trivial|refine ⟨⟨_,rfl,aJ⟩,?_⟩|refine ⟨⟨_,rfl,aQ.of_eq xc⟩,?_⟩)) aX (by show k<k+1;omega)
theorem MQ (x y:bP) (ab:x.ms.length<bC) (ay:y.ms.length<bC):aT d0 66 [eN x,eN y] (.bool (x==y)):=by
 have an:=bD;refine aT.bh ah Tryz.func66 C C fun s I=>?_
 have U:=u4 x.ms y.ms ab ay;have he:(x==y)=(decide (x.atom=y.atom)&&(decide (x.no=y.no)&&(decide (x.yes=y.yes)&&x.ms==y.ms))):=by
  obtain ⟨a,b,c,d⟩:=x;obtain ⟨c7,aY,pH,c9⟩:=y;rw [af7];simp
 unfold eN ha bd at *
 repeat' (first|(with_reducible first|apply ae.seq|apply b0|apply ae.ret)|refine c4 C ?_|refine ae.cF ?_|refine aa.nil ?_|refine cv C ?_|refine aa.skip C C C ?_|refine aa.ec C C C C C cx ?_|(fail_if_success refine aa.same true C ?_);(fail_if_success refine aa.same false C ?_);refine aa.hh C C (fun h=>?_) (fun h=>?_))
 all_goals (refine Fin.cB I C (aQ.of_eq (ae7 ag.bool ?_));rw [he];clear I U he;grind)
theorem Ec (a b:List bP) (a6:a.length<bC) (dO:b.length<bC) (Vr:∀ x∈a,x.ms.length<bC) (w8:∀ x∈b,x.ms.length<bC):aT d0 15 [hv a,hv b] (.bool (a==b)):=by
 have an:=bD;refine aT.bh ah Tryz.func15 C C fun s I=>?_
 unfold hv;refine b7 ?_;refine ae.cond C (fun cJ=>?_) (fun heq=>?_)
 ·have cJ:a.length≠b.length:=by simp at cJ;omega
  have:(a==b)=false:=by rw [beq_eq_false_iff_ne];rintro rfl;exact cJ C
  rw [this];refine gX ?_;exact bB I
 have heq:a.length=b.length:=by simp at heq;omega
 refine kq ?_;refine ae.b5 [0,1] C I (σ:=Nat) (fun j=>[(5,.int .i64 (j:Int))]) (fun _=>[]) (fun j=>j≤a.length∧(a==b)=(a.drop j==b.drop j)) (fun j=>a.length-j) 0 ⟨g7 _,by simp⟩ (cl C) .nil ?_;rintro j ⟨aL,aq⟩ I
 try simp only at aL aq I ⊢
 refine b7 ?_;refine ae.cond C (fun au=>?_) (fun aV=>?_);rotate_left
 ·have aV:j=a.length:=by simp at aV;omega
  rw [eD af,eD (l:=b) af] at aq;rw [aq];refine ez ?_;exact bB I
 have au:j<a.length:=by simpa using au
 obtain ⟨x,ab,bL⟩:=b8 (f:=eN) au;obtain ⟨y,ay,c8⟩:=b8 (f:=eN) (show j<b.length by omega);have ar:=MQ x y (Vr x (d5 ab)) (w8 y (d5 ay));rw [drop_cons ab,drop_cons ay,List.cons_beq_cons] at aq;unfold eN ha bd at bL c8 ar;cases aB:x==y with
 | false=>
  rw [aB] at ar;rw [aq,aB,f9];refine b' ?_;exact bB I
 | true=>
  rw [aB] at ar;rw [aB,f5] at aq;refine b' ?_;exact bn.mk (j+1) I ⟨au,aq⟩ cj .nil DI
abbrev ku:=List (Int×ag)
def qw (l:ku):List (ag×ag):=l.map fun e=>(.int .i64 e.1,e.2)
def oS (l:ku) (n:Int):Option ag:=(l.find? fun e=>n==e.1).map (·.2)
def sC:ku→Int→ag→ku
 | [],n,v=>[(n,v)]
 | e::r,n,v=>if n==e.1 then (n,v)::r else e::sC r n v
theorem HQ:∀ (l:ku) (n m:Int) (v:ag),oS (sC l n v) m=if m=n then some v else oS l m
  | [],n,m,v=>by
    unfold sC oS;by_cases h:m=n
    · subst h;simp
    · have:(m==n)=false:=by simpa using h
      simp [h,this]
  | (k,x)::r,n,m,v=>by
    have a1:=HQ r n m v;rw [sC];by_cases h:n=k
    · subst h
      rw [g6 ba];unfold oS;by_cases ad:m=n
      · subst ad;simp
      · have:(m==n)=false:=by simpa using ad
        simp [ad,this]
    · rw [f0 e2]
      unfold oS at a1 ⊢;by_cases ad:m=k
      · subst ad
        have:¬ m=n:=fun e=>h e.symm
        simp [this]
      · have al:(m==k)=false:=by simpa using ad
        simp only [ay1,al];exact a1
theorem vb (n:Int):∀ l:ku,jj (qw l) (.int .i64 n)=some (oS l n)
  | []=>rfl
  | (k,x)::r=>by
    have a1:=vb n r;unfold qw oS at *;rw [ae3,jj];by_cases h:n=k
    · subst h;simp [kj]
    · have al:(n==k)=false:=by simpa using h
      simp only [kj,al,ay1];simpa using a1
theorem vc (n:Int) (v:ag):∀ l:ku,lZ (qw l) (.int .i64 n) v=some (qw (sC l n v))
  | []=>rfl
  | (k,x)::r=>by
    have a1:=vc n v r;unfold qw at *;rw [ae3,lZ,sC];by_cases h:n=k
    · subst h;simp [kj]
    · have al:(n==k)=false:=by simpa using h
      simp only [kj,al];simp [a1]
def qx {α:Type} (e:α→α→Bool):List α→List α→Bool
 | [],[]=>true
 | x::r,y::t=>e x y&&qx e r t
 | _,_=>false
theorem MR {α:Type} (e:α→α→Bool):∀ (a b:List α),a.length≠b.length→qx e a b=false
 | [],[],h=>absurd C h
 | [],_::_,_=>rfl
 | _::_,[],_=>rfl
 | x::r,y::t,h=>by rw [qx,MR e r t e2,Bool.and_false]
theorem Vs (fv:ag) (e:ak→ak→Bool) (a b:List ak) (aC:a.length<bC) (yU:b.length<bC) (br:∀ x∈a,∀ y∈b,eF d0 fv [ak.bK x,ak.bK y] (.bool (e x y))) :
  aT d0 94 [.aA 6 (a.map ak.bK) .bb,.aA 6 (b.map ak.bK) .bb,fv] (.bool (qx e a b)):=by
 have an:=bD;refine aT.bh ah Tryz.func94 C C fun s I=>?_
 refine b7 ?_;refine ae.cond C (fun h=>?_) (fun h=>?_)
 ·have cJ:a.length≠b.length:=by simp at h;omega
  rw [MR e a b cJ];refine gX ?_;exact bB I
 ·have eT:a.length=b.length:=by simp at h;omega
  refine kq ?_;refine ae.b5 [0,1,2,15,16] C I (σ:=Nat) (fun j=>[(17,.int .i64 (j:Int))]) (fun _=>[]) (fun j=>j≤a.length∧qx e a b=qx e (a.drop j) (b.drop j)) (fun j=>a.length-j) 0 ⟨g7 _,rfl⟩ (cl C) aX ?_;rintro j ⟨aL,aq⟩ I;refine b7 ?_;refine ae.cond C (fun au=>?_) (fun aV=>?_);rotate_left;have aV:j=a.length:=by
   have:a.length≤j:=by simpa using aV
   omega
  ·rw [eD af,eD af] at aq
   rw [aq];refine ez ?_;exact bB I
  have au:j<a.length:=by simpa using au
  obtain ⟨x,ab,bL⟩:=b8 (f:=ak.bK) au;obtain ⟨y,ay,c8⟩:=b8 (f:=ak.bK) (by omega:j<b.length);have aB:=br x (d5 ab) y (d5 ay);rw [ak.b6] at bL;rw [ak.b6] at c8;rw [ak.b6,ak.b6] at aB;rw [drop_cons ab,drop_cons ay,qx] at aq;refine dG ?_;refine aa.eb ah I C C C C C C C (fun ho I=>?_);refine Lw I ?_;intro I;refine aa.eb ah I C C C C C C C (fun cT I=>?_);refine Lw I ?_;intro I;refine aa.mH C C C C C C aB ?_;cases aw:e x y with
  | false=>
   rw [aq,aw,f9];refine bl ?_;exact bB I
  | true=>
   rw [aw,f5] at aq;refine bl ?_;refine bn.mk (j+1) I ⟨au,aq⟩ cj aX DI
theorem Bj {α:Type} (q:α→Bool) (l:List α):(!l.any fun x => !q x)=l.all q:=by
 induction l with
 | nil=>rfl
 | cons x r a1=>rw [List.any_cons,ak6,Bool.not_or,Bool.not_not,a1]
theorem Vt (fv:ag) (q:Bool) (x:ak) (h:eF d0 fv [ak.bK x] (.bool q)):eF d0 (.func 234 [] [.bw [fv] 0]) [ak.bK x] (.bool (!q)):=by
 refine eF.fx (first:=[]) (cap:=[.bw [fv] 0]) ?_;refine aT.bh ah Tryz.func234 C C fun s I=>?_
 rw [ak.b6] at h ⊢;refine dt ?_;refine aa.mH C C C C C C h ?_;refine er ?_;exact bB I
theorem Vu (f:FuncId) (iy hB:List ag) (q:ak→Bool) (xs:List ak) (aC:xs.length<bC) (h:∀ x∈xs,eF d0 (.func f iy hB) [ak.bK x] (.bool (q x))) :
  aT d0 200 [.aA 6 (xs.map ak.bK) .bb,.func f iy hB] (.bool (xs.all q)):=by
 rw [← Bj];refine aT.bh ah Tryz.func200 C C fun s I=>?_
 have aB:=U5 (.func 234 [] [.bw [.func f iy hB] 0]) (fun x => !q x) xs aC (fun x ab=>Vt (.func f iy hB) (q x) x (h x ab));refine dt ?_;refine aa.ec C C C C C aB ?_;refine er ?_;exact bB I
def qy (x:ak×Bool):List ag:=x.1.cells++[.bool x.2]
def h' (x:ak×Bool):ag := .agg (qy x)
theorem y1 (l:List Int):∀ y∈l.map a8,km 1 y=true:=by
 intro y ay;obtain ⟨z,-,rfl⟩:=af'.1 ay;first|rfl|(rw [a8];rfl)
theorem Bk (l:List Int) (own:bN) (aC:l.length<bC):aT d0 47 [.aA 1 (l.map a8) own] (.aA 1 (l.map a8) .bb):=by
 have an:=bD;refine aT.bh ah Tryz.func47 C C fun s I=>?_
 refine dt ?_;refine aa.op C C C (aZ.HE ah C C C C (X:=fun _ _=>False)) ?_ (fun _ _ h=>False.elim h);rintro r aj ⟨rfl,⟨rfl,az⟩|rfl⟩
 ·refine ed ?_
  refine Fin.cB I C ?_;rw [az];exact aQ.empty
 ·refine bl ?_
  refine aa.nX ah C C C C C C C di C C C (.inl C) (.inr C) C (y1 _) Be yY (.inr C) ?_;refine er ?_;exact bB I
theorem Vv (l:List (ak×Bool)):∀ y∈l.map h',km 7 y=true:=by
 intro y ay;obtain ⟨z,-,rfl⟩:=af'.1 ay;first|rfl|(rw [h'];rfl)
theorem Vw (xs:List ag) (own:bN):aT d0 193 [.aA 2 xs own] (.aA 2 xs .clip):=by
 refine aT.bh ah Tryz.func193 C C fun s I=>?_
 refine dt ?_;refine aa.slice ah 0 xs.length C C C C C C C C (.inr C) (.inl ⟨rfl,rfl⟩) (.inr ⟨_,_,rfl,rfl⟩) (.inr ⟨_,_,rfl,rfl,rfl⟩) af (g8 _) ?_;rw [ae5,am6];refine er ?_;exact bB I
theorem HR (xs:List ag) (own:bN):aT d0 194 [.aA 1 xs own] (.aA 1 xs .clip):=by
 refine aT.bh ah Tryz.func194 C C fun s I=>?_
 refine dt ?_;refine aa.slice ah 0 xs.length C C C C C C C C (.inr C) (.inl ⟨rfl,rfl⟩) (.inr ⟨_,_,rfl,rfl⟩) (.inr ⟨_,_,rfl,rfl,rfl⟩) af (g8 _) ?_;rw [ae5,am6];refine er ?_;exact bB I
theorem Vx (xs:List ag) (own:bN):aT d0 262 [.aA 1 xs own] (.aA 1 xs .clip):=by
 refine aT.bh ah Tryz.func262 C C fun s I=>?_
 refine dt ?_;refine aa.slice ah 0 xs.length C C C C C C C C (.inr C) (.inl ⟨rfl,rfl⟩) (.inr ⟨_,_,rfl,rfl⟩) (.inr ⟨_,_,rfl,rfl,rfl⟩) af (g8 _) ?_;rw [ae5,am6];refine er ?_;exact bB I
theorem Vy (fv:ag) (q:Bool) (x:Int) (h:eF d0 fv [a8 x] (.bool q)):eF d0 (.func 233 [] [.bw [fv] 0]) [a8 x] (.bool (!q)):=by
 refine eF.fx (first:=[]) (cap:=[.bw [fv] 0]) ?_;refine aT.bh ah Tryz.func233 C C fun s I=>?_
 rw [a8] at h ⊢;refine dt ?_;refine aa.mH C C C C C C h ?_;refine er ?_;exact bB I
theorem MS (f:FuncId) (iy hB:List ag) (q:Int→Bool) (xs:List Int) (aC:xs.length<bC) (h:∀ x∈xs,eF d0 (.func f iy hB) [a8 x] (.bool (q x))) :
  aT d0 198 [.aA 1 (xs.map a8) .bb,.func f iy hB] (.bool (xs.all q)):=by
 rw [← Bj];refine aT.bh ah Tryz.func198 C C fun s I=>?_
 have aB:=U8 (.func 233 [] [.bw [.func f iy hB] 0]) (fun x => !q x) xs aC (fun x ab=>Vy (.func f iy hB) (q x) x (h x ab));refine dt ?_;refine aa.ec C C C C C aB ?_;refine er ?_;exact bB I
theorem Vz (fv:ag) (q:Bool) (x:(Int×Int)) (h:eF d0 fv [gk x] (.bool q)):eF d0 (.func 208 [] [.bw [fv] 0]) [gk x] (.bool (!q)):=by
 refine eF.fx (first:=[]) (cap:=[.bw [fv] 0]) ?_;refine aT.bh ah Tryz.func208 C C fun s I=>?_
 rw [gk] at h ⊢;refine dt ?_;refine aa.mH C C C C C C h ?_;refine er ?_;exact bB I
theorem MT (f:FuncId) (iy hB:List ag) (q:(Int×Int)→Bool) (xs:List (Int×Int)) (aC:xs.length<bC) (h:∀ x∈xs,eF d0 (.func f iy hB) [gk x] (.bool (q x))) :
  aT d0 168 [.aA 2 (xs.map gk) .bb,.func f iy hB] (.bool (xs.all q)):=by
 rw [← Bj];refine aT.bh ah Tryz.func168 C C fun s I=>?_
 have aB:=Va (.func 208 [] [.bw [.func f iy hB] 0]) (fun x => !q x) xs aC (fun x ab=>Vz (.func f iy hB) (q x) x (h x ab));refine dt ?_;refine aa.ec C C C C C aB ?_;refine er ?_;exact bB I
theorem VA (fv:ag) (q:Bool) (x:eV) (h:eF d0 fv [jc x] (.bool q)):eF d0 (.func 240 [] [.bw [fv] 0]) [jc x] (.bool (!q)):=by
 refine eF.fx (first:=[]) (cap:=[.bw [fv] 0]) ?_;refine aT.bh ah Tryz.func240 C C fun s I=>?_
 rw [jc] at h ⊢;refine dt ?_;refine aa.mH C C C C C C h ?_;refine er ?_;exact bB I
theorem VB (f:FuncId) (iy hB:List ag) (q:eV→Bool) (xs:List eV) (aC:xs.length<bC) (h:∀ x∈xs,eF d0 (.func f iy hB) [jc x] (.bool (q x))) :
  aT d0 203 [.aA 2 (xs.map jc) .bb,.func f iy hB] (.bool (xs.all q)):=by
 rw [← Bj];refine aT.bh ah Tryz.func203 C C fun s I=>?_
 have aB:=Vd (.func 240 [] [.bw [.func f iy hB] 0]) (fun x => !q x) xs aC (fun x ab=>VA (.func f iy hB) (q x) x (h x ab));refine dt ?_;refine aa.ec C C C C C aB ?_;refine er ?_;exact bB I
theorem HS (f:ak):aT d0 171 [f.bK] (.bool f.c5):=by
 have an:=bD;refine aT.bh ah Tryz.func171 C C fun s I=>?_
 rw [ak.b6]
 repeat' (first|(with_reducible first|apply ae.seq|apply b0|apply ae.ret)|refine c4 C ?_|refine ae.cF ?_|refine aa.nil ?_|refine cv C ?_|refine aa.skip C C C ?_|(fail_if_success refine aa.same true C ?_);(fail_if_success refine aa.same false C ?_);refine aa.hh C C (fun h=>?_) (fun h=>?_))
 all_goals exact Fin.cB I C (aQ.of_eq (by first|(simp_all [ak.c5];done)|(simp_all [ak.c5]<;>omega)))
theorem VC (op:Int):aT d0 235 [.int .i64 op] (.int .i64 (so op)):=by
 have an:=bD;refine aT.bh ah Tryz.func235 C C fun s I=>?_
 repeat' (first|(with_reducible first|apply ae.seq|apply b0|apply fY|apply fh|apply hC|apply ae.ret|apply ae.skip|apply ae.block)|refine c4 C ?_|refine ae.cond C (fun h=>?_) (fun h=>?_))
 all_goals exact Fin.cB I C (aQ.of_eq (by first|(simp_all [so];done)|(simp_all [so]<;>omega)))
theorem MU (f g:ak) (a7:f.path.length<bC) (av:g.path.length<bC):aT d0 104 [f.bK,g.bK] (.bool (decide (f.op=g.op)&&(decide (f.arg=g.arg)&&(decide (f.cls=g.cls)&&(decide (f.n=g.n)&&f.path==g.path))))):=by
 have an:=bD;refine aT.bh ah Tryz.func104 C C fun s I=>?_
 rw [ak.b6,ak.b6];have U:=A1 f.path g.path a7 av;unfold bd a8 at U
 repeat' (first|(with_reducible first|apply ae.seq|apply b0|apply ae.ret)|refine c4 C ?_|refine ae.cF ?_|refine aa.nil ?_|refine cv C ?_|refine aa.skip C C C ?_|refine aa.ec C C C C C cx ?_|(fail_if_success refine aa.same true C ?_);(fail_if_success refine aa.same false C ?_);refine aa.hh C C (fun h=>?_) (fun h=>?_))
 all_goals exact Fin.cB I C (aQ.of_eq sx)
theorem VD {m c n:Nat} (h:m<n):m >>> c<n:=by
 rw [Nat.shiftRight_eq_div_pow];exact Nat.lt_of_le_of_lt (Nat.div_le_self _ _) h
theorem VE (m c:Nat):decide ((((m >>> c) &&& 1:Nat):Int)=1)=m.testBit c:=by
 rw [Nat.testBit,aD7];have h:1 &&& (m >>> c)=(m >>> c) % 2:=by rw [aD7];exact Nat.and_one_is_mod _
 rw [h];rcases Nat.mod_two_eq_zero_or_one (m >>> c) with e|e<;>rw [e]<;>rfl
theorem MV {c:Nat} (h:c<64):2^c<2^64:=ai' af h
theorem y2 (m c:Nat) (hm:m<2^64) (aB:c<64):aT d0 173 [.int .u64 (m:Int),.int .i64 (c:Int)] (.bool (m.testBit c)):=by
 have an:=bD;refine aT.bh ah Tryz.func173 C C fun s I=>?_
 refine dt ?_;refine aa.shr ((m >>> c:Nat):Int) C C C C C C af (tJ aB) ?_;refine aa.bits (((m >>> c) &&& 1:Nat):Int) C C C C C C (u1 (VD hm) du) ?_;refine er ?_;refine Fin.cB I C (aQ.of_eq ?_);rw [← VE];rfl
theorem Bl (m c:Nat) (hm:m<2^64) (aB:c<64):aT d0 197 [.int .u64 (m:Int),.int .i64 (c:Int)] (.int .u64 ((m|||2^c:Nat):Int)):=by
 have an:=bD;refine aT.bh ah Tryz.func197 C C fun s I=>?_
 refine dt ?_;refine aa.shl ((2^c:Nat):Int) C C C C C C af (DP aB) ?_;refine aa.bits ((m|||2^c:Nat):Int) C C C C C C (wZ hm (MV aB)) ?_;refine er ?_;exact bB I
def qz (w:bz) (up:List Nat):List ag:=fE w++up.map fun n => .int .u64 (n:Int)
def fc (w:bz) (up:List Nat):ag := .bw (qz w up) 0
theorem MW (w:bz) (up:List Nat) (c:Int) (hw:w.ps.length≤60):aT d0 199 [fc w up,.int .i64 c] (.bool (decide (c≥3)&&decide (c<3+(w.ps.length:Int)))):=by
 have an:=bD;refine aT.bh ah Tryz.func199 C C fun s I=>?_
 unfold fc qz fE df bd;have dm:t7 .i64 (3+((w.ps.map bd).length:Int))=3+(w.ps.length:Int):=by rw [d9,dz af af]
 unfold bd at dm
 repeat' (first|(with_reducible first|apply ae.seq|apply b0|apply ae.ret)|refine c4 C ?_|refine ae.cF ?_|refine aa.nil ?_|refine cv C ?_|refine aa.skip C C C ?_|(fail_if_success refine aa.same true C ?_);(fail_if_success refine aa.same false C ?_);refine aa.hh C C (fun h=>?_) (fun h=>?_))
 all_goals exact Fin.cB I C (aQ.of_eq sx)
theorem VF (w:bz) (up:List Nat) (c:Int) (hw:w.ps.length≤60):aT d0 237 [fc w up,.int .i64 c] (.bool (decide (c≥0)&&decide (c<3+(w.ps.length:Int)))):=by
 have an:=bD;refine aT.bh ah Tryz.func237 C C fun s I=>?_
 unfold fc qz fE df bd;have dm:t7 .i64 (3+((w.ps.map bd).length:Int))=3+(w.ps.length:Int):=by rw [d9,dz af af]
 unfold bd at dm
 repeat' (first|(with_reducible first|apply ae.seq|apply b0|apply ae.ret)|refine c4 C ?_|refine ae.cF ?_|refine aa.nil ?_|refine cv C ?_|refine aa.skip C C C ?_|(fail_if_success refine aa.same true C ?_);(fail_if_success refine aa.same false C ?_);refine aa.hh C C (fun h=>?_) (fun h=>?_))
 all_goals exact Fin.cB I C (aQ.of_eq sx)
theorem VG (w:bz) (up:List Nat) (c:Int):aT d0 263 [fc w up,.int .i64 c] (.bool (decide (c≥0)&&decide (c<(w.owner.length:Int)))):=by
 have an:=bD;refine aT.bh ah Tryz.func263 C C fun s I=>?_
 unfold fc qz fE df bd
 repeat' (first|(with_reducible first|apply ae.seq|apply b0|apply ae.ret)|refine c4 C ?_|refine ae.cF ?_|refine aa.nil ?_|refine cv C ?_|refine aa.skip C C C ?_|(fail_if_success refine aa.same true C ?_);(fail_if_success refine aa.same false C ?_);refine aa.hh C C (fun h=>?_) (fun h=>?_))
 all_goals exact Fin.cB I C (aQ.of_eq sx)
theorem VH (w:bz) (up:List Nat) (c:Int):eF d0 (.func 263 [fc w up] []) [a8 c] (.bool (decide (c≥0)&&decide (c<(w.owner.length:Int)))):=
 eF.fx (first:=[fc w up]) (cap:=[]) (VG w up c)
theorem VI (w:bz) (up:List Nat) (c:Int) (hw:w.ps.length≤60):eF d0 (.func 199 [fc w up] []) [a8 c] (.bool (decide (c≥3)&&decide (c<3+(w.ps.length:Int)))):=
 eF.fx (first:=[fc w up]) (cap:=[]) (MW w up c hw)
theorem VJ (w:bz) (up:List Nat) (l:List Int) (aC:l.length<bC):aT d0 236 [fc w up,bd l] (.bool (decide (l.length≤2)&&l.all fun c=>decide (c≥0)&&decide (c<(w.owner.length:Int)))):=by
 have an:=bD;refine aT.bh ah Tryz.func236 C C fun s I=>?_
 have U:=MS 263 [fc w up] [] _ l aC (fun x _=>VH w up x);unfold bd;unfold fc at U ⊢
 repeat' (first|(with_reducible first|apply ae.seq|apply b0|apply ae.ret)|refine c4 C ?_|refine ae.cF ?_|refine aa.nil ?_|refine cv C ?_|refine aa.skip C C C ?_|refine aa.ec C C C C C cx ?_|(fail_if_success refine aa.same true C ?_);(fail_if_success refine aa.same false C ?_);refine aa.hh C C (fun h=>?_) (fun h=>?_))
 all_goals exact Fin.cB I C (aQ.of_eq sx)
theorem VK (b:Bool):aT d0 261 [.bool b] (.int .i64 (if b then 0 else 2)):=by
 have an:=bD;refine aT.bh ah Tryz.func261 C C fun s I=>?_
 repeat' (first|(with_reducible first|apply ae.seq|apply b0|apply fY|apply ae.ret|apply ae.skip)|refine c4 C ?_|refine ae.cond C (fun h=>?_) (fun h=>?_))
 all_goals exact Fin.cB I C (aQ.of_eq sx)
def oT (m:Nat):ag := .agg [.int .u64 (m:Int)]
theorem MX (m c:Nat) (hm:m<2^64) (aB:c<64):aT d0 286 [oT m,.int .i64 (c:Int)] (oT (m|||2^c)):=by
 have an:=bD;refine aT.bh ah Tryz.func286 C C fun s I=>?_
 unfold oT
 repeat (first|(refine sk ?_)|refine aa.jC I C C C C C C (fun b I=>?_)|refine aa.eb ah I C C C C C C C (fun cH I=>?_)|(refine TZ ?_))
 refine aK.arr ah 0 C C C C C C C C C C af ?_;refine cC I ?_;intro I;refine aK.shl ((2^c:Nat):Int) C C C C C C af (DP aB) ?_;refine aK.bits ((m|||2^c:Nat):Int) C C C C C C (wZ hm (MV aB)) ?_;refine aK.arr ah 0 C C C C C C C C C C af ?_;refine cC I ?_;intro I;exact Fin.cB I (oH C C (bo.get aW I) C) aJ
theorem VL (m n:Nat) (hm:m<2^64) (az:n<2^64):aT d0 287 [oT m,oT n] (oT (m|||n)):=by
 have an:=bD;refine aT.bh ah Tryz.func287 C C fun s I=>?_
 unfold oT
 repeat (first|(refine sk ?_)|refine aa.jC I C C C C C C (fun b I=>?_)|refine aa.eb ah I C C C C C C C (fun cH I=>?_)|(refine T0 ?_))
 refine aa.arr ah 0 C C C C C C C C C C af ?_;refine cC I ?_;intro I;refine aa.arr ah 0 C C C C C C C C C C af ?_;refine cC I ?_;intro I;refine aa.bits ((m|||n:Nat):Int) C C C C C C (wZ hm az) ?_;refine aa.arr ah 0 C C C C C C C C C C af ?_;refine cC I ?_;intro I;exact Fin.cB I (oH C C (bo.get aW I) C) aJ
theorem VM (h y:Int):eF d0 (.func 308 [] [.bw [.int .i64 h] 0]) [.int .i64 y] (.bool (y != h)):=by
 have an:=bD;refine eF.fx (first:=[]) (cap:=[.bw [.int .i64 h] 0]) ?_;refine aT.bh ah Tryz.func308 C C fun s I=>?_
 refine gX ?_;exact bB I
theorem VN {all:List (List Int)} {c:Int} {k:Nat} {m:List Int} (h:all[k]? = some m):free (all.drop k) c=(!(m.drop 1).contains c&&free (all.drop (k+1)) c):=by
 rw [drop_cons h];rfl
theorem VO (n b:Nat) (jn:n<1000∧b<1000) (all:List (List Int)) (hm:rA n b all):aT d0 293 [df all] (.cw [bd (merged all).1,.bool (merged all).2]):=by
 have an:=bD;refine aT.bh ah Tryz.func293 C C fun s I=>?_
 unfold df;have w6:total all≤n*b:=D5 hm;have UX:n*b≤1000*1000:=Nat.mul_le_mul af af;refine b' ?_;refine ae.h0 I 3 1 0 fun I=>?_
 refine ae.b5 [] C I (σ:=Nat×List (List Int)×List Int×bN) (fun q=>[(0,.aA 1 (q.2.1.map bd) .bb),(4,.aA 1 (q.2.2.1.map a8) q.2.2.2)]) (fun q=>[(q.2.2.2,.row 3 1 q.2.2.1.length)])
  (fun q=>merge q.1 q.2.1 q.2.2.1=merged all∧total q.2.1<q.1∧rA n b q.2.1∧q.2.2.1.length+total q.2.1≤total all) (fun q=>q.1) (total all+1,all,[],.nil) ⟨rfl,aj6 _,hm,by simp⟩ ⟨⟨_,rfl,aJ⟩,⟨_,rfl,aQ.nil gN⟩,trivial⟩ (aG.dB _) ?_
 rintro ⟨f,cur,acc,own⟩ ⟨dM,hr,hm,uS⟩ I;simp only at dM hr hm uS I ⊢;have cy:=hm.len;refine b' ?_;refine ae.b5 [0,4,14,15] C I (σ:=Nat×Bool) (fun z=>[(5,.bool z.2),(16,.int .i64 (z.1:Int))]) (fun _=>[(own,.row 3 1 acc.length)])
  (fun z=>z.1≤cur.length∧pick cur cur=pick cur (cur.drop z.1)∧(!z.2)=(cur.take z.1).all ap') (fun z=>cur.length-z.1) (0,false) ⟨g7 _,rfl,rfl⟩ (cl C) (aG.dB _) ?_
 rintro ⟨j,Hp⟩ ⟨aL,aq,hP⟩ I;simp only at aL aq hP I ⊢;refine b7 ?_;refine ae.cond C (fun au=>?_) (fun aV=>?_);rotate_left
 ·have aV:j=cur.length:=by simp at aV;omega
  subst aV;rw [eD (g8 _)] at aq;rw [ae5] at hP;cases f with
  | zero=>omega
  | succ f=>
   rw [merge,aq] at dM;have dM:(acc,cur.all ap')=merged all:=dM;rw [← dM,← hP];refine bl ?_;exact Fin.cB I C (aQ.cw (.cons aQ.bb (.one aJ)))
 have au:j<cur.length:=by simpa using au
 obtain ⟨l,ay,c8⟩:=b8 (f:=bd) au;have Mh:=hm.each l (d5 ay);have A2:(cur.take (j+1)).all ap'=((cur.take j).all ap'&&l.isEmpty):=by rw [il ay,List.all_append];simp
 unfold bd at c8;refine bl ?_;cases l with
 | nil=>
  rw [Mf ay] at aq;refine ae.fM C ?_;refine kL ?_;exact bn.mk (j+1,Hp) I ⟨au,aq,by rw [A2,← hP];simp⟩ cj (aG.dB _) (by show cur.length-(j+1)<cur.length-j;omega)
 | cons c r=>
 rw [Mg ay] at aq;refine ae.cond C (fun h=>absurd h cV) (fun _=>?_);refine kq ?_;refine ae.b5 [0,4,5,7,14,15,16,23,24] C I (σ:=Nat) (fun k=>[(25,.int .i64 (k:Int))]) (fun _=>[(own,.row 3 1 acc.length)]) (fun k=>k≤cur.length∧free cur c=free (cur.drop k) c) (fun k=>cur.length-k) 0 ⟨g7 _,rfl⟩ (cl C) (aG.dB _) ?_;rintro k ⟨aE,bk⟩ I;refine b7 ?_;refine ae.cond C (fun cI=>?_) (fun dV=>?_)
 ·have cI:k<cur.length:=by simpa using cI
  obtain ⟨m,mc,VP⟩:=b8 (f:=bd) cI;have ht:=hm.each m (d5 mc);rw [VN mc] at bk;have im:=yT (m.drop 1) c (by rw [ai1];omega);unfold bd at im VP;rw [List.map_drop] at im;have Mi:((c::r).map a8)[0]? = some (.int .i64 c):=rfl;cases m with
  | nil=>
   have bk:free cur c=free (cur.drop (k+1)) c:=bk;refine b' ?_;exact bn.mk (k+1) I ⟨cI,bk⟩ cj (aG.dB _) (by show cur.length-(k+1)<cur.length-k;omega)
  | cons x q=>
   refine pD ?_;refine aK.hh C C (fun _=>?_) (fun h=>absurd h ba);refine jF ?_;refine aK.slice 1 ((x::q).map a8).length C C C C C C C C (.inr C) (.inr ⟨_,_,rfl,rfl⟩) (.inl ⟨rfl,rfl,rfl⟩) (.inl ⟨rfl,rfl⟩) ba (g8 _) ?_;rw [ae5];refine c2 ?_;cases bE:((x::q).drop 1).contains c with
   | true=>
    rw [bE,Bool.not_true,f9] at bk;rw [bk,f0 ba] at aq;refine bl ?_;exact bn.mk (j+1,true) I ⟨au,aq,by rw [A2];simp⟩ cj (aG.dB _) (by show cur.length-(j+1)<cur.length-j;omega)
   | false=>
    rw [bE,Bool.not_false,f5] at bk;refine j8 ?_;exact bn.mk (k+1) I ⟨cI,bk⟩ cj (aG.dB _) (by show cur.length-(k+1)<cur.length-k;omega)
 have dV:k=cur.length:=by simp at dV;omega
 subst dV;rw [eD (g8 _)] at bk;have bk:free cur c=true:=bk;rw [g6 bk] at aq;cases f with
 | zero=>omega
 | succ f=>
 have Mj:=DQ (u2 aq);rw [merge,aq] at dM;simp only at dM;have Mi:((c::r).map a8)[0]? = some (.int .i64 c):=rfl;refine et ?_;refine aa.fO ah I C C C C C C C di C C C C C C C C aW gY jS af (fun bR I=>?_);refine bl ?_;obtain ⟨xs,c'⟩:∃ xs:Nat→List ag,∀ j,xs j=((cur.take j).map (fD c)).map bd:=⟨_,fun _=>rfl⟩;have bq:xs 0=[]:=by rw [c'];rfl
 have fm:∀ j,(xs j).length≤cur.length:=fun j=>by
  rw [c',d9,d9];exact al0 _ _
 refine ae.h0 I 23 1 0 fun I=>?_
 refine ae.b5 [4,10,48,49] C I (σ:=Nat×bN) (fun q=>[(50,.int .i64 (q.1:Int)),(11,.aA 1 (xs q.1) q.2)]) (fun q=>[(q.2,.row 23 1 (xs q.1).length),(.own bR,.row 3 1 (acc.length+1))]) (fun q=>q.1≤cur.length) (fun q=>cur.length-q.1) (0,.nil) (g7 _) ⟨⟨_,rfl,aJ⟩,⟨_,rfl,by rw [bq];exact aQ.nil gN⟩,trivial⟩ GW ?_;rintro ⟨i,qt⟩ aR I;simp only at aR I ⊢;refine b7 ?_;refine ae.cond C (fun ka=>?_) (fun kQ=>?_)
 ·have ka:i<cur.length:=by simpa using ka
  obtain ⟨l,ay,c8⟩:=b8 (f:=bd) ka;have ar:=c' (i+1);rw [il ay,ad',ad',← c'] at ar;have ar:xs (i+1)=xs i++[.aA 1 ((fD c l).map a8) .bb]:=ar;have cR:(xs (i+1)).length=(xs i).length+1:=by rw [ar];simp
  have l1:=fm i;have hw:=Md (.func 308 [] [.bw [.int .i64 c] 0]) (fun y=>y != c) (fun y=>VM c y) l (by have:=(hm.each l (d5 ay)).1;omega);have hw:aT d0 307 [.aA 1 (l.map a8) .bb,.func 308 [] [.bw [.int .i64 c] 0]] (.aA 1 ((fD c l).map a8) .bb):=hw;unfold bd at c8;refine c2 ?_;refine aa.fO ah I C C C C C C C di C C C C C C C C aW gY pE af (fun fo I=>?_);refine fj ?_;exact bn.mk (i+1,.own fo) I ka kM (by show aG _ [(_,.row _ _ (xs (i+1)).length),_] _;rw [cR];exact aG.dB _) G0
 ·have kQ:i=cur.length:=by
   have:cur.length≤i:=by simpa using kQ
   omega
  subst kQ;have he:xs cur.length=(cur.map (fD c)).map bd:=by rw [c',ae5]
  rw [he] at I ⊢;refine bl ?_;exact bn.mk (f,cur.map (fD c),acc++[c],.own bR) I ⟨dM,by show total (cur.map (fD c))<f;omega,hm.fD c,by show (acc++[c]).length+total (cur.map (fD c))≤total all;rw [f6,ag8];omega⟩ ⟨⟨_,rfl,aQ.bb⟩,⟨_,rfl,aQ.of_eq (by simp [a8])⟩,trivial⟩ (by show aG _ [(_,.row _ _ (acc++[c]).length)] _;rw [f6,ag8];exact (aG.dB _).there) (by show f<f+1;omega)
def jL (ps:List (List Int)) (iq:bN) (us:List Nat) (gl:bN) (mb:Nat):List ag:=[.aA 1 (ps.map bd) iq,.aA 1 (us.map oT) gl,.map mb]
def gI (cr:Nat) (ps:List (List Int)) (iq:bN) (us:List Nat) (gl:bN) (mb:Nat) (fp:ku):a':=
 [(.own cr,.box 327 (jL ps iq us gl mb)),(iq,.row 23 1 ps.length),(gl,.row 346 1 us.length),(.own mb,.map (qw fp))]
def VQ (o:Option ag) (l:List Int):Prop:=match l with
 | []=>o=none
 | x::r=>∃ v,o=some v∧aQ v (.aA 1 ((x::r).map a8) .bb)
def rE (fp:ku) (os:List (List Int)):Prop:=∀ c:Nat,VQ (oS fp (c:Int)) (os.getD c [])
def rF (os:List (List Int)) (l:List Int):Option (List (List Int)):=(iY os l).map fun r=>r++[l]
theorem VR (cr:Nat) (ps:List (List Int)) (iq:bN) (us:List Nat) (gl:bN) (mb:Nat) (fp:ku) (os:List (List Int)) (dK:rE fp os) (A4:∀ l∈os,l.length<1000) (c:Nat) (l:List Int) (aC:ps[c]? = some l) (mO:l.length≤3) (lL:∀ p∈l,0≤p) :
  bA d0 292 [.ptr cr 0,.int .i64 (c:Int)] (gI cr ps iq us gl mb fp) (fun o K=>o = .ret (u5 (rF os l))∧K=gI cr ps iq us gl mb fp):=by
 have an:=bD;have ql:(ps.map bd)[c]? = some (.aA 1 (l.map a8) .bb):=by rw [ae4,aC];rfl
 refine bA.bh ah Tryz.func292 C C fun s I=>?_
 unfold gI jL at I ⊢;refine hD I ?_;intro I;refine ae.h0 I 23 1 0 fun I=>?_
 refine ae.b5 [0,1,15,16] C I (σ:=Nat×List (List Int)×bN) (fun q=>[(17,.int .i64 (q.1:Int)),(6,.aA 1 (q.2.1.map bd) q.2.2)]) (fun q=>(q.2.2,.row 23 1 q.2.1.length)::gI cr ps iq us gl mb fp) (fun q=>q.1≤l.length∧q.2.1.length=q.1∧iY os l=pre (iY os (l.drop q.1)) q.2.1) (fun q=>l.length-q.1) (0,[],.nil) ⟨g7 _,rfl,(Mn _).symm⟩ ⟨⟨_,rfl,aJ⟩,⟨_,rfl,aQ.nil gN⟩,trivial⟩ (by simp only [gI,jL];exact aX) ?_;rintro ⟨j,acc,own⟩ ⟨aL,kt,aq⟩ I;simp only [gI,jL] at aL kt aq I ⊢;refine b7 ?_;refine ae.cond C (fun au=>?_) (fun aV=>?_);rotate_left
 ·have aV:l.length≤j:=by simpa using aV
  rw [eD aV] at aq;have aq:iY os l=some (acc++[]):=aq;have kT:rF os l=some (acc++[l]):=by unfold rF;rw [aq];simp
  rw [kT];have Hr:u5 (some (acc++[l])) = .cw [.aA 1 (acc.map bd++[.aA 1 (l.map a8) .bb]) .bb,.bool true]:=by
   show ag.cw [.aA 1 ((acc++[l]).map bd) .bb,.bool true]=_;rw [ad'];rfl
  rw [Hr];refine cC I ?_;intro I;refine aa.fO ah I C C C C C C C di C C C C C C C C aW gY pE af (fun bR I=>?_);refine er ?_;exact Fin.bs (K:=gI cr ps iq us gl mb fp) I C (aQ.cw (.cons aQ.bb (.one aJ))) (by simp only [gI,jL];exact aX) ⟨rfl,rfl⟩
 have au:j<l.length:=by simpa using au
 obtain ⟨p,ay,c8⟩:=b8 (f:=a8) au;rw [drop_cons ay,Mo] at aq;have MY:=lL p (d5 ay);have qA:=dK p.toNat;rw [Int.toNat_of_nonneg MY] at qA;have kR:(os.getD p.toNat []).length<1000:=by
  rw [d7];cases h:os[p.toNat]? with
  | none=>simp
  | some x=>exact A4 x (d5 h)
 generalize os.getD p.toNat []=ol at aq qA kR;have hw:=US ol af;unfold a8 at c8;unfold bd at hw;refine cC I ?_;intro I;cases ol with
 | nil=>
  have aq:iY os l=none:=aq;have kT:rF os l=none:=by unfold rF;rw [aq];rfl
  rw [kT];have qA:oS fp p=none:=qA;refine aa.jD ah I C C C C C C C C C C aW C (by rw [vb,qA]) C ?_;refine bl ?_;exact Fin.bs (K:=gI cr ps iq us gl mb fp) I C (aQ.cw (.cons (aQ.nil gN) (.one aJ))) (by simp only [gI,jL];exact aX) ⟨rfl,rfl⟩
 | cons x r=>
  obtain ⟨v,qA,Bm⟩:∃ v,oS fp p=some v∧aQ v (.aA 1 ((x::r).map a8) .bb):=qA;refine aa.jD ah I C C C C C C C C C C aW C (by rw [vb,qA]) C ?_;refine aa.nV 26 _ C Bm ?_;refine cC I ?_;intro I;refine aa.jD ah I C C C C C C C C C C aW C (by rw [vb,qA]) C ?_;refine aa.nV 35 _ C Bm ?_;refine c2 ?_;refine aa.fO ah I C C C C C C C di C C C C C C C C aW gY pE af (fun bR I=>?_);refine fj ?_;exact bn.mk (j+1,acc++[fD 0 (x::r)],.own bR) I ⟨au,by rw [f6,kt];rfl,aq⟩ yK (by show aG _ ((_,.row _ _ (acc++[fD 0 (x::r)]).length)::gI cr ps iq us gl mb fp) _;rw [f6,ag8];exact (by simp only [gI,jL];exact aX)) n4
def Bn (os:List (List Int)) (l:List Int) (c:Nat):List Int:=if c=0 then [0] else match rF os l with
 | none=>[]
 | some all=>if (merged all).2 then (c:Int)::(merged all).1++[0] else []
theorem MZ {os:List (List Int)} {v:List Int} (c:Nat):(os++[v]).getD c []=if c=os.length then v else os.getD c []:=by
 rw [d7,d7];by_cases e:c=os.length
 ·subst e
  rw [g6 C,af4 (g8 _)];simp
 ·rw [f0 e]
  rcases Nat.lt_or_ge c os.length with h|h
  ·rw [ag0 h]
  ·rw [am5 cV,am5 h]
theorem rE.tA {fp:ku} {os:List (List Int)} (h:rE fp os):rE fp (os++[[]]):=fun c=>by
 rw [MZ];by_cases e:c=os.length
 ·have:=h c
  rw [g6 e];rw [e,d7,am5 (g8 _)] at this;rw [e];exact this
 ·rw [f0 e];exact h c
theorem rE.put {fp:ku} {os:List (List Int)} (h:rE fp os) {v:ag} (x:Int) (r:List Int) (aw:aQ v (.aA 1 ((x::r).map a8) .bb)):rE (sC fp (os.length:Int) v) (os++[x::r]):=fun c=>by
 rw [MZ,HQ];by_cases e:c=os.length
 ·subst e;rw [g6 C,g6 C];exact ⟨v,rfl,aw⟩
 ·rw [f0 e,f0 af];exact h c
theorem VS (cr:Nat) (ps:List (List Int)) (iq:bN) (us:List Nat) (gl:bN) (mb:Nat) (fp:ku) (os:List (List Int)) (dK:rE fp os) (A4:∀ l∈os,l.length<1000) (l:List Int) (aC:ps[os.length]? = some l) (mO:l.length≤3) (lL:∀ p∈l,0≤p) (M0:∀ all,rF os l=some all→rA 4 21 all) (ac8:os.length<100) :
  bA d0 288 [.ptr cr 0,.int .i64 (os.length:Int)] (gI cr ps iq us gl mb fp) (fun o K=>o = .ret (.cw [])∧∃ Ed,K=gI cr ps iq us gl mb Ed∧rE Ed (os++[Bn os l os.length])):=by
 have an:=bD;have y3:=VR cr ps iq us gl mb fp os dK A4 os.length l aC mO lL;unfold Bn;refine bA.bh ah Tryz.func288 C C fun s I=>?_
 unfold gI jL at I;refine b7 ?_;refine ae.cond C (fun h=>?_) (fun h=>?_)
 ·have bq:os.length=0:=by have:=aj' h;omega
  rw [g6 bq];refine cC I ?_;intro I;refine aa.nh ah I C C (.inl C) C C C C C C aW C (vc _ _ _) (fun I=>?_);refine ed ?_;have az:=dK.put (v := .aA 1 [.int .i64 0] .clip) 0 [] aQ.bb;rw [bq] at az;exact Fin.bs (K:=gI cr ps iq us gl mb (sC fp 0 (.aA 1 [.int .i64 0] .clip))) I C aJ (by simp only [gI,jL];exact aX) ⟨rfl,_,rfl,az⟩
 have bq:os.length≠0:=by have:=of_decide_eq_false h;omega
 rw [f0 bq];cases Ee:rF os l with
 | none=>
  rw [Ee] at y3;unfold u5 df gI jL at y3;refine dG ?_;refine aa.bX rfl rfl rfl rfl rfl y3 I (aG.all _) ?_ (fun _ _ ⟨h,_⟩ _=>by cases h);rintro _ _ ⟨⟨⟩,rfl⟩ I;rw [d6] at I ⊢;refine ed ?_;exact Fin.bs (K:=gI cr ps iq us gl mb fp) I C aJ (by simp only [gI,jL];exact aX) ⟨rfl,_,rfl,dK.tA⟩
 | some all=>
  rw [Ee] at y3;have hm:=VO 4 21 af all (M0 all Ee);unfold u5 df gI jL at y3;unfold df at hm;simp only;refine dG ?_;refine aa.bX rfl rfl rfl rfl rfl y3 I (aG.all _) ?_ (fun _ _ ⟨h,_⟩ _=>by cases h);rintro _ _ ⟨⟨⟩,rfl⟩ I;rw [d6] at I ⊢;cases w8:(merged all).2 with
  | false=>
   rw [w8] at hm;simp only [Bool.false_eq_true,ah'];refine b' ?_;exact Fin.bs (K:=gI cr ps iq us gl mb fp) I C aJ (by simp only [gI,jL];exact aX) ⟨rfl,_,rfl,dK.tA⟩
  | true=>
   rw [w8] at hm;simp only [ag7];have ht:=Hq (total all+1) all [];have w6:=D5 (M0 all Ee);have Hy:(merged all).1.length≤84:=by
    have:(merged all).1.length≤0+total all:=ht;omega
   generalize (merged all).1=y4 at hm Hy ⊢;unfold bd at hm;refine c2 ?_;refine ae.A6 I 3 1 1 fun I=>?_
   refine ae.nf (dc [(cr,_)]) ah mixed C (bg.run (dc.one (bo.get aW I)) C ?_);refine bg.ni 3 ah (dc.one (bo.get aW I)) C C C C C C C C (fun _ h=>dc.fst h) b1 ?_;refine bg.run (dc.one (bo.get aW I)) C ?_;refine bg.rp 8 ah I rfl rfl rfl rfl rfl rfl rfl rfl rfl di rfl rfl rfl rfl (.inr rfl) rfl (fun y ay=>by obtain ⟨z,-,rfl⟩:=af'.1 ay;rfl) C .here C (n':=y4.length+1) cV cV cV (fun pQ I => .inl (dc.one (bo.get aW I))) (fun pQ I=>?_);refine bg.run (dc.one (bo.get aW I)) C ?_;refine bg.fO 10 ah I C C C C C C C C C di C C C C C C C C .here ba jS af (fun qt I => .inl (dc.one (bo.get aW I))) (fun qt I=>?_);refine bg.run (dc.one (bo.get aW I)) C ?_;refine bg.nh 11 ah I C C C C (.inl C) C C C C C C aW C (vc _ _ _) (fun _ => .inr C) (fun I=>?_);refine bc.done C ?_;skip;refine Fin.bs (K:=gI cr ps iq us gl mb (sC fp (os.length:Int) (.aA 1 ([ag.int .i64 (os.length:Int)]++y4.map a8++[ag.int .i64 0]) qt))) I C aJ (by simp only [gI,jL];exact aX) ⟨rfl,_,rfl,dK.put _ _ ?_⟩;have:((os.length:Int)::(y4++[0])).map a8=[ag.int .i64 (os.length:Int)]++y4.map a8++[ag.int .i64 0]:=by simp [a8]
   rw [show y4.append [0]=y4++[0] from rfl,this];exact aQ.bb
def qB (g:List (List Int)):List (List Int):=[[],[],[]]++g
theorem M1 {g:List (List Int)} {c:Nat} (h:c<3+g.length):(qB g)[c]? = some (parents g c):=by
 unfold qB parents;by_cases aB:c<3
 ·rw [g6 aB,ag0 (by simpa using aB)]
  rcases c with _|_|_|c
  ·rfl
  ·rfl
  ·rfl
  ·omega
 ·rw [f0 aB,af4 cV,d7]
  simp only [g9,af6];rw [f7 af];rfl
theorem VT (g:List (List Int)) (os:List (List Int)) (c:Nat) (aB:c≠0):Bn os (parents g c) c=order g os c:=by
 unfold Bn order rF lists;rw [f0 aB];cases iY os (parents g c)<;>rfl
theorem Bo (g:List (List Int)):∀ (n k:Nat),k≤n→(fK g n).take (k+1)=fK g k
  | 0,k,h=>by
    have:k=0:=by omega
    subst this;rfl
  | n+1,k,h=>by
    by_cases e:k=n+1
    · subst e
      rw [ag9 (by rw [tK];exact g8 _)]
    · rw [fK,List.take_append_of_le_length (by rw [tK];omega)]
      exact Bo g n k af
theorem VU (g:List (List Int)) {j:Nat} (aL:j<3+g.length):(fK g (2+g.length)).take (j+1)=(fK g (2+g.length)).take j++[Bn ((fK g (2+g.length)).take j) (parents g j) j]:=by
 cases j with
 | zero=>rw [Bo g _ 0 af,al4];rfl
 | succ k=>
  rw [Bo g _ (k+1) af,Bo g _ k af,VT g _ _ af,fK]
theorem VV {g:List (List Int)} (av:sv g) {j:Nat} (aL:j<3+g.length):(∀ l∈(fK g (2+g.length)).take j,l.length<1000)∧∀ all,rF ((fK g (2+g.length)).take j) (parents g j)=some all→rA 4 21 all:=by
 have iK:=av.len;have ai:=A7 av (2+g.length) af;refine ⟨fun l aC=>by have:=ai.len l (ap0 aC);omega,fun all h=>?_⟩;cases j with
 | zero=>
  have:parents g 0=[]:=rfl;rw [this] at h;have:rF ((fK g (2+g.length)).take 0) []=some [[]]:=rfl;rw [this] at h;cases h;exact ⟨by simp,fun l aC=>by rw [H1] at aC;subst aC;exact ⟨by simp,fun c aB=>by cases aB⟩⟩
 | succ k=>
  rw [Bo g _ k af] at h;exact Hx av (A7 av k af) (c:=k+1) h
theorem VW (g:List (List Int)) (av:mL g=true) (eu:List Int) (cy:eu.length<bC) (nM:∀ c∈eu,0≤c∧c<3+(g.length:Int)) :
  bA d0 275 [df g,.aA 1 (eu.map a8) .bb] [] (fun o K=>∃ cr iq us gl mb fp,o = .ret (.cw [.ptr cr 0,.bool true])∧K=gI cr (qB g) iq us gl mb fp∧rE fp (fK g (2+g.length))):=by
 have an:=bD;have mC:=A3 av;have iK:=mC.len;have VX:=Me g af;rw [av] at VX;refine bA.bh ah Tryz.func275 C C fun s I=>?_
 unfold df at *;have dm:t7 .i64 (3+((g.map bd).length:Int))=3+(g.length:Int):=by rw [d9,dz af af]
 refine c2 ?_;refine ae.b5 [0,4,5,18,19] C I (σ:=Nat) (fun j=>[(20,.int .i64 (j:Int))]) (fun _=>[]) (fun j=>j≤eu.length) (fun j=>eu.length-j) 0 (g7 _) (cl C) aX ?_;rintro j aL I;refine fI ?_;refine ae.cond C (fun au=>?_) (fun aV=>?_)
 ·have au:j<eu.length:=by simpa using au
  obtain ⟨c,ay,c8⟩:=b8 (f:=a8) au;obtain ⟨cu,cL⟩:=nM c (d5 ay);unfold a8 at c8;refine dG ?_;refine aa.dh 26 C (ab' af) ?_;refine gr ?_;refine ae.cond C (fun h=>by rw [dm] at h;simp at h;omega) (fun _=>?_);refine c2 ?_;exact bn.mk (j+1) I au cj aX (by show eu.length-(j+1)<eu.length-j;omega)
 clear aL aV;refine c2 ?_;refine aa.HI ah I 3 (3+g.length) C C C C C C C C C C C (ae7 (fun z=>some (ag.int .i64 z)) (dm.trans af)) af (by show _*24≤_;omega) af (fun aeg I=>?_);skip;refine aa.sj I C C C C (fun mb I=>?_)
 repeat (first|(refine sk ?_)|refine aa.jC I C C C C C C (fun b I=>?_)|(refine GS I ?_;clear I;intro I))
 refine aa.rp ah I rfl rfl rfl rfl rfl rfl rfl di rfl rfl rfl rfl (.inr rfl) rfl (fun y ay=>by obtain ⟨z,-,rfl⟩:=af'.1 ay;rfl) C aW C (n':=3+g.length) ba cV cV (fun iq I=>?_);refine aa.nV 47 (.aA 1 ((qB g).map bd) iq) C (aQ.A8 (.cons aQ.empty (.cons aQ.empty (.cons aQ.empty (cU.refl _))))) ?_;refine cC I ?_;intro I;have ih:(qB g).length=3+g.length:=by unfold qB;simp;omega
 refine ae.wQ I b (jL (qB g) iq [] .nil mb) aW (.cons aJ (.cons (aQ.nil gN) (cU.refl _))) (fun I=>?_);refine ae.h0 I 346 1 0 fun I=>?_
 refine ae.b5 [8,53,54] C I (σ:=Nat×List Nat×bN) (fun q=>[(55,.int .i64 (q.1:Int))]) (fun q=>gI b (qB g) iq q.2.1 q.2.2 mb []) (fun q=>q.1≤3+g.length∧q.2.1.length=q.1∧∀ m∈q.2.1,m<2^64) (fun q=>3+g.length-q.1) (0,[],.nil) ⟨g7 _,rfl,by simp⟩ (cl C) (by rw [← ih] at I ⊢;exact (by simp only [gI,jL];exact aX)) ?_;rintro ⟨j,us,gl⟩ ⟨aL,kF,xf⟩ I;simp only [gI,jL] at aL kF xf I ⊢;refine fI ?_;refine ae.cond C (fun au=>?_) (fun aV=>?_)
 ·have au:j<3+g.length:=by rw [d9,ih] at au;simp at au;omega
  have ay:=M1 au;have c8:((qB g).map bd)[j]? = some (.aA 1 ((parents g j).map a8) .bb):=by rw [ae4,ay];rfl
  obtain ⟨n1,mP⟩:=mC.parents j;generalize parents g j=l at ay c8 n1 mP;have U:=MX 0 j du af;have ad:=MX (0|||2^j) 0 (aj4 du (ai' af af)) af;unfold oT at U ad
  repeat (first|(refine wT I ?_;clear I;intro I)|refine aa.eb ah I rfl rfl rfl rfl rfl rfl rfl (fun cH I=>?_)|(refine qo ?_))
  refine ae.b5 [8,9,11,53,54,55,64,65] C I (σ:=Nat×Nat) (fun q=>[(66,.int .i64 (q.1:Int))]) (fun q=>(.own cH,.box 346 [.int .u64 (q.2:Int)])::gI b (qB g) iq us gl mb []) (fun q=>q.1≤l.length∧q.2<2^64) (fun q=>l.length-q.1) (0,0|||2^j|||2^0) ⟨g7 _,aj4 (aj4 du (ai' af af)) du⟩ (cl C) (by simp only [gI,jL];exact aX) ?_;rintro ⟨k,m⟩ ⟨aE,hm⟩ I;simp only [gI,jL] at aE hm I ⊢;refine fI ?_;refine ae.cond C (fun cI=>?_) (fun dV=>?_)
  ·have cI:k<l.length:=by simpa using cI
   obtain ⟨p,aB,ns⟩:=b8 (f:=a8) cI;have ac9:=mP p (d5 aB);obtain ⟨q,rfl⟩:∃ q:Nat,p=q:=⟨p.toNat,by omega⟩;obtain ⟨u,hu,VY⟩:=b8 (f:=oT) (l:=us) (j:=q) af;have Af:=VL m u hm (xf u (d5 hu));unfold a8 at ns;unfold oT at Af VY;refine tB I ?_;intro I;exact bn.mk (k+1,m|||u) I ⟨cI,aj4 hm (xf u (d5 hu))⟩ cj (by simp only [gI,jL];exact aX) (by show l.length-(k+1)<l.length-k;omega)
  ·refine tC ?_
   refine ae.nf (dc [(b,_),(cH,_)]) ah mixed C (bg.run (dc.two (bo.get aW I) (bo.get aW I)) C ?_);refine bg.ni 4 ah (dc.two (bo.get aW I) (bo.get aW I)) C C C C C C C C (fun _ h=>dc.fst h) b1 ?_;refine bg.ni 5 ah (dc.two (bo.get aW I) (bo.get aW I)) C C C C C C C C (fun _ h=>dc.snd h) b1 ?_;refine bg.run (dc.two (bo.get aW I) (bo.get aW I)) C ?_;refine bg.fO 7 ah I C C C C C C C C C di C C C C C C C C aW ba jS af (fun qt I => .inl (dc.two (bo.get aW I) (bo.get aW I))) (fun VZ I=>?_);refine bg.run (dc.two (bo.get aW I) (bo.get aW I)) C ?_;refine bg.cK 10 ah I C C C C C C C C C C C aW b1 (fun _ => .inr C) (fun I=>?_);refine bc.done C ?_;refine c2 ?_;have yD:∀ x∈us++[m],x<2^64:=fun x ab=>by
    rcases ae'.1 ab with ab|ab
    ·exact xf x ab
    ·rw [H1] at ab;subst ab;exact hm
   have ht:(us++[m]).length=us.length+1:=by simp
   have V0:(us++[m]).map oT=us.map oT++[.agg [.int .u64 (m:Int)]]:=by simp [oT]
   exact bn.mk (j+1,us++[m],VZ) I ⟨au,by rw [ht,kF],yD⟩ cj (by simp only [gI,jL,ht,V0];exact aX) (by show 3+g.length-(j+1)<3+g.length-j;omega)
 have aV:j=3+g.length:=by rw [d9,ih] at aV;simp at aV;omega
 subst aV;refine cC I ?_;intro I;refine ae.b5 [8,94,95] C I (σ:=Nat×ku) (fun q=>[(96,.int .i64 (q.1:Int))]) (fun q=>gI b (qB g) iq us gl mb q.2) (fun q=>q.1≤3+g.length∧rE q.2 ((fK g (2+g.length)).take q.1)) (fun q=>3+g.length-q.1) (0,[]) ⟨g7 _,fun c=>by rw [al4];rfl⟩ (cl C) (by simp only [gI,jL];exact aX) ?_;rintro ⟨j,fp⟩ ⟨aL,dK⟩ I;simp only [gI,jL] at aL dK I ⊢;refine fI ?_;refine ae.cond C (fun au=>?_) (fun aV=>?_)
 ·have au:j<3+g.length:=by rw [d9,ih] at au;simp at au;omega
  obtain ⟨tj,q7⟩:=VV mC au;obtain ⟨n1,mP⟩:=mC.parents j;have w6:((fK g (2+g.length)).take j).length=j:=by rw [ae8,tK];omega
  have vd:=VS b (qB g) iq us gl mb fp _ dK tj (parents g j) (by rw [w6];exact M1 au) n1 (fun p aF=>by have:=mP p aF;omega) q7 af;rw [w6,← VU g au] at vd;refine dG ?_;refine aa.bX C C C C C vd I (by simp only [gI,jL];exact aX) ?_ (fun _ _ ⟨h,_⟩ _=>by cases h);rintro _ _ ⟨⟨⟩,Ed,rfl,V1⟩ I;rw [d6] at I ⊢;refine c2 ?_;exact bn.mk (j+1,Ed) I ⟨au,V1⟩ cj (aG.dB _) (by show 3+g.length-(j+1)<3+g.length-j;omega)
 have aV:j=3+g.length:=by rw [d9,ih] at aV;simp at aV;omega
 subst aV;rw [ag9 (by rw [tK];omega)] at dK;refine c2 ?_;exact Fin.bs I C aJ (aG.dB _) ⟨b,iq,us,gl,mb,fp,rfl,rfl,dK⟩
theorem V2 (g:List (List Int)) (av:g.length<bC):aT d0 254 [df g] (.int .i64 (if mL g then 0 else 2)):=by
 have an:=bD;refine aT.bh ah Tryz.func254 C C fun s I=>?_
 have U:=Me g av;unfold df at *
 repeat' (first|(with_reducible first|apply ae.seq|apply b0|apply fY|apply ae.ret|apply ae.skip)|refine c4 C ?_|refine ae.cF ?_|refine aa.nil ?_|refine cv C ?_|refine aa.ec C C C C C cx ?_|refine ae.cond C (fun h=>?_) (fun h=>?_))
 all_goals exact Fin.cB I C (aQ.of_eq sx)
def M3 (l:List Int):ag:=if l.isEmpty then .cw [.aA 0 [] .nil,.int .i64 7] else .cw [bd l,.int .i64 0]
theorem V3 (g:List (List Int)) (av:mL g=true) (c:Nat) (aB:c<3+g.length):aT d0 255 [df g,.int .i64 (c:Int)] (M3 ((fK g (2+g.length)).getD c [])):=by
 have an:=bD;refine aT.bh ah Tryz.func255 C C fun s I=>?_
 have U:=VW g av [(c:Int)] cV (by intro x ab;rw [H1] at ab;subst ab;omega);have mC:=A3 av;have iK:=mC.len;have ai:=A7 mC (2+g.length) af;unfold df at *;have U:=bA.args (show cU [.aA 1 (g.map bd) .bb,.aA 1 [.int .i64 (c:Int)] .clip] [.aA 1 (g.map bd) .bb,.aA 1 ([(c:Int)].map a8) .bb] from .cons aJ (.one aQ.bb)) U;refine dt ?_;refine aa.bX rfl rfl rfl rfl rfl U I .nil ?_ (fun _ _ ⟨_,_,_,_,_,_,h,_⟩ _=>by cases h);rintro _ _ ⟨cr,iq,us,gl,mb,fp,⟨⟩,rfl,dK⟩ I;rw [d6] at I ⊢;have Bp:=dK c;have fZ:((fK g (2+g.length)).getD c []).length<bC:=by
  rw [d7];cases h:(fK g (2+g.length))[c]? with
  | none=>simp;omega
  | some x=>have:=ai.len x (d5 h);show x.length<bC;omega
 generalize (fK g (2+g.length)).getD c []=l at Bp fZ;unfold gI jL at I ⊢;cases l with
 | nil=>
  have Bp:oS fp (c:Int)=none:=Bp;refine hD I ?_;intro I;refine aa.jD ah I C C C C C C C C C C aW C (by rw [vb,Bp]) C ?_;refine ed ?_;exact bB I
 | cons x r=>
  obtain ⟨v,qA,Bm⟩:∃ v,oS fp (c:Int)=some v∧aQ v (.aA 1 ((x::r).map a8) .bb):=Bp;have cy:=Bk (x::r) .bb fZ;unfold bd at cy;refine hD I ?_;intro I;refine aa.jD ah I C C C C C C C C C C aW C (by rw [vb,qA]) C ?_;refine aa.nV 22 _ C Bm ?_;refine cC I ?_;intro I;refine aa.jD ah I C C C C C C C C C C aW C (by rw [vb,qA]) C ?_;refine aa.nV 30 _ C Bm ?_;refine c2 ?_;exact bB I
theorem Bq {w:bz} {up:List Nat} {c m:Nat} (h:up[c]? = some m):(qz w up)[2+c]? = some (.int .u64 (m:Int)):=by
 unfold qz fE;rw [af4 ba];simp [h]
theorem M4 (w:bz) (up:List Nat) (c bu m o:Nat) (aB:c<63) (hm:up[c]? = some m) (ht:m<2^64) (ar:w.owner[bu]? = some (o:Int)) (ai:o<64):aT d0 209 [fc w up,.int .i64 (c:Int),.int .i64 (bu:Int)] (.bool (m.testBit o)):=by
 have an:=bD;refine aT.bh ah Tryz.func209 C C fun s I=>?_
 have U:=y2 m o ht ai;have ad:(w.owner.map a8)[bu]? = some (.int .i64 (o:Int)):=by simp [ar,a8]
 have al:=Bq (w:=w) hm;unfold fc;unfold qz fE bd at al ⊢;refine b' ?_;refine aK.l9 ah c C C C C C C C C C C aB ?_;refine aK.Ba ah C C C C C C C (by simpa using al) ?_;refine c2 ?_;exact bB I
theorem HT (c:Nat) (aB:c<64):aT d0 197 [.int .u64 1,.int .i64 (c:Int)] (.int .u64 ((1|||2^c:Nat):Int)):=Bl 1 c du aB
def n5 (w:bz) (u:List Nat):List ag:=qz w (pad u)
theorem M5 {w:bz} {u:List Nat} (h:u.length<63) (v:Nat):eM (2+u.length*1) [.int .u64 (v:Int)] (n5 w u)=n5 w (u++[v]):=by
 rw [mQ];unfold n5 qz;rw [al8 _ _ (by simp [fE]),← UH h v,List.map_set];congr 2;simp [fE]
theorem M6 {w:bz} {u:List Nat} (h:u.length≤63):(n5 w u).length=65:=by
 unfold n5 qz;rw [f6,d9,UG h];rfl
theorem V4 {w:bz} {u:List Nat} {c m:Nat} (h:u[c]? = some m):(n5 w u)[2+c*1]? = some (.int .u64 (m:Int)):=by
 rw [ag'];exact Bq (yO h)
theorem V5 (j:Nat) (aL:j<3):[1,3,5].take (j+1)=[1,3,5].take j++[1|||2^j]:=by
 rcases j with _|_|_|j
 ·rfl
 ·rfl
 ·rfl
 ·omega
theorem V6 (w:bz) (hw:gz w):aT d0 165 [fz w] (.cw [fc w (pad (eY w.ps)),.bool true]):=by
 have an:=bD;have rG:=hw.ja;have fZ:=hw.bp;refine aT.bh ah Tryz.func165 C C fun s I=>?_
 unfold fz fE df bd;refine dt ?_;refine aa.dh 15 C cV ?_;refine gr ?_;refine ae.cond C (fun h=>?_) (fun _=>?_)
 ·simp at h;omega
 refine ae.skip ?_
 repeat (first|(refine DE ?_)|refine aa.jC I C C C C C C (fun b I=>?_)|(refine DF ?_))
 refine ae.b5 [1,4] C I (σ:=Nat) (fun j=>[(24,.int .i64 (j:Int))]) (fun j=>[(.own b,.box 234 (n5 w ([1,3,5].take j)))]) (fun j=>j≤3) (fun j=>3-j) 0 (g7 _) (cl C) aX ?_;rintro j aL I;refine b7 ?_;refine ae.cond C (fun au=>?_) (fun aV=>?_)
 ·have au:j<3:=by have:=aj' au;omega
  have U:=HT j af;have e:eM (2+j*1) [.int .u64 ((1|||2^j:Nat):Int)] (n5 w ([1,3,5].take j))=n5 w ([1,3,5].take (j+1)):=by
   have aC:([1,3,5].take j).length=j:=by simp;omega
   have:=M5 (w:=w) (u:=[1,3,5].take j) af (1|||2^j);rw [aC] at this;rw [this,V5 j au]
  have hlen:(n5 w ([1,3,5].take j)).length=65:=M6 cV;refine b' ?_;refine aK.arr ah j C C C C C C C C C C af ?_;refine aK.hQ ah I _ C C C C C C C C C C aW (by rw [hlen];show 2+j*1+1≤65;omega) e (fun I=>?_);refine gx ?_;exact bn.mk (j+1) I au cj aX (by show 3-(j+1)<3-j;omega)
 have aV:j=3:=by have:=of_decide_eq_false aV;omega
 subst aV;refine bl ?_;refine ae.b5 [1,4,36,37] C I (σ:=Nat) (fun j=>[(38,.int .i64 (j:Int))]) (fun j=>[(.own b,.box 234 (n5 w (eY (w.ps.take j))))]) (fun j=>j≤w.ps.length) (fun j=>w.ps.length-j) 0 (g7 _) (cl C) aX ?_;rintro j aL I;refine b7 ?_;refine ae.cond C (fun au=>?_) (fun aV=>?_);rotate_left
 ·have aV:j=w.ps.length:=by simp at aV;omega
  subst aV;rw [ae5] at I ⊢;have kv:w.owner.all (fun c=>decide (c≥3)&&decide (c<3+(w.ps.length:Int)))=true:=by
   rw [ah2];intro o ai;have:=hw.own o ai;simp;omega
  have qC:=MS 199 [fc w (pad (eY w.ps))] [] _ w.owner af (fun x _=>VI w (pad (eY w.ps)) x rG);rw [kv] at qC;refine ae.l5 I 4 b C aW (fun I=>?_);unfold fc at qC ⊢;refine c2 ?_;exact bB I
 have au:j<w.ps.length:=by simpa using au
 obtain ⟨l,ay,c8⟩:=b8 (f:=bd) au;have iK:=DS hw.oK ay;have U:=HT (3+j) af;have kF:(eY (w.ps.take j)).length=3+j:=by rw [tN,ae8];omega
 have HU:∀ m∈eY (w.ps.take j),m<2^64:=yN uz;have ix:t7 .i64 (3+(j:Int))=((3+j:Nat):Int):=by rw [dz af af];omega
 have mO:l.length<100:=by have:=hw.short l (d5 ay);omega
 generalize qD:eY (w.ps.take j)=aeb at I kF HU;unfold bd at c8;have U:aT d0 197 [.int .u64 1,.int .i64 (t7 .i64 (3+(j:Int)))] (.int .u64 ((1|||2^(3+j):Nat):Int)):=by rw [ix];exact U
 refine b' ?_;refine ae.b5 [1,4,36,37,38,6,7,46,47] C I (σ:=Nat) (fun k=>[(48,.int .i64 (k:Int)),(8,.int .u64 (((l.take k).foldl (fun s p=>s|||aeb.getD p.toNat 0) (1|||2^(3+j)):Nat):Int))]) (fun k=>[(.own b,.box 234 (n5 w aeb))]) (fun k=>k≤l.length) (fun k=>l.length-k) 0 (g7 _) (cl C) aX ?_;rintro k aE I;refine b7 ?_;refine ae.cond C (fun cI=>?_) (fun dV=>?_);rotate_left
 ·have dV:k=l.length:=by simp at dV;omega
  subst dV;rw [ae5] at ⊢;have e:eM (2+(3+j)*1) [.int .u64 ((sq aeb l:Nat):Int)] (n5 w aeb)=n5 w (eY (w.ps.take (j+1))):=by
   rw [il ay,LV,qD,← kF];exact M5 af _
  have hlen:(n5 w aeb).length=65:=M6 af;unfold sq at e;rw [kF] at e;refine bl ?_;refine aa.arr ah (3+j) C C C C C C C C C ix af ?_;refine aa.hQ ah I _ C C C C C C C C C aW (by rw [hlen];show 2+(3+j)*1+1≤65;omega) e (fun I=>?_);refine fj ?_;exact bn.mk (j+1) I au cj aX (by show w.ps.length-(j+1)<w.ps.length-j;omega)
 have cI:k<l.length:=by simpa using cI
 obtain ⟨p,aB,ns⟩:=b8 (f:=a8) cI;obtain ⟨g1,g2,g3⟩:=DT iK aB;obtain ⟨q,rfl⟩:∃ q:Nat,p=q:=⟨p.toNat,by omega⟩;have im:=yT (l.take k) q (by have:=al0 k l;omega);have ve:(l.take k).contains (q:Int)=false:=by simpa using g3
 rw [ve] at im;unfold bd at im;rw [List.map_take] at im;unfold a8 at ns im;obtain ⟨m,hm⟩:∃ m,aeb[q]? = some m:=⟨aeb[q]' af,f7 _⟩;refine dG ?_;refine aa.dh 55 C (ab' af) ?_;refine dU ?_;refine aa.dh 61 C (by rw [ix];exact ab' af) ?_;refine dU ?_;refine aa.slice ah 0 k C C C C C C C C (.inr C) (.inl ⟨rfl,rfl⟩) (.inr ⟨_,_,rfl,rfl⟩) (.inl ⟨rfl,rfl⟩) (g7 _) (by simpa using aE) ?_;rw [am6];refine c2 ?_;refine aa.arr ah q C C C C C C C C C C af ?_;refine aa.jd ah I C C C C C C aW C (V4 hm) ?_;refine aa.bits (((l.take k).foldl (fun s p=>s|||aeb.getD p.toNat 0) (1|||2^(3+j))|||m:Nat):Int) C C C C C C (wZ (Hb HU _ _ (Ha du (ai' af af))) (HU m (d5 hm))) ?_;refine fj ?_;refine bn.mk (k+1) I cI (by repeat (first|exact trivial|refine ⟨⟨_,rfl,aJ⟩,?_⟩|refine ⟨⟨_,rfl,aQ.of_eq (by (first|rw [h7 af]|(rw [il aB,ao0];simp [hm])))⟩,?_⟩)) aX (by show l.length-(k+1)<l.length-k;omega)
theorem V7 (fv:ag) (K aO:a') (q:Bool) (x:ak) (h:dA d0 fv [x.bK] K (fun o K=>o = .ret (.bool q)∧K=aO)):dA d0 (.func 234 [] [.bw [fv] 0]) [x.bK] K (fun o K=>o = .ret (.bool (!q))∧K=aO):=by
 refine dA.fx (first:=[]) (cap:=[.bw [fv] 0]) ?_;refine bA.bh ah Tryz.func234 C C fun s I=>?_
 rw [ak.b6] at h ⊢;refine dt ?_;refine aa.gM rfl rfl rfl rfl rfl rfl h I (aG.all _) ?_ (fun _ _ ⟨h,_⟩ _=>by cases h);rintro _ _ ⟨⟨⟩,rfl⟩ I;rw [d6] at I ⊢;refine er ?_;exact Fin.bs I C aJ (aG.all _) ⟨rfl,rfl⟩
theorem V8 (f:FuncId) (iy hB:List ag) (xs:List ak) (T:Nat→a') (cq:Nat→Bool) (aC:xs.length<bC) (h:∀ j x,xs[j]? = some x→(∀ i,i<j→cq i=true)→dA d0 (.func f iy hB) [x.bK] (T j) (fun o K=>o = .ret (.bool (cq j))∧K=T (j+1))) :
  bA d0 200 [.aA 6 (xs.map ak.bK) .bb,.func f iy hB] (T 0)
   (fun o K=>(o = .ret (.bool true)∧K=T xs.length∧∀ i,i<xs.length→cq i=true)∨∃ j,j<xs.length∧cq j=false∧(∀ i,i<j→cq i=true)∧o = .ret (.bool false)∧K=T (j+1)):=by
 refine bA.bh ah Tryz.func200 C C fun s I=>?_
 have aB:=HA (.func 234 [] [.bw [.func f iy hB] 0]) xs T (fun j => !cq j) aC (fun j x ab aR=>V7 (.func f iy hB) (T j) (T (j+1)) (cq j) x (h j x ab (fun i eU=>by simpa using aR i eU)));refine dt ?_;refine aa.bX rfl rfl rfl rfl rfl aB I (aG.all _) ?_ (fun _ _ h _=>by rcases h with ⟨h,_⟩|⟨_,_,_,_,h,_⟩<;>cases h);rintro _ _ (⟨⟨⟩,rfl,U⟩|⟨j,U,ad,al,⟨⟩,rfl⟩) I
 all_goals rw [d6] at I ⊢
 ·refine er ?_
  exact Fin.bs I C aJ (aG.all _) (.inl ⟨rfl,rfl,fun i aR=>by simpa using U i aR⟩)
 ·refine er ?_
  exact Fin.bs I C aJ (aG.all _) (.inr ⟨j,U,by simpa using ad,fun i aR=>by simpa using al i aR,rfl,rfl⟩)
def me (lf:Nat) (k:Int):a':=[(.own lf,.box 3 [.int .i64 k])]
theorem V9 (w:bz) (d:Nat) (k:Int) (f:ak):fb w d k f=if decide (k-1<0)||decide (d=0) then (false,k-1) else if ik w f then hj w (d-1) (k-1) f.kids else (false,k-1):=by
 cases f;rw [fb];rfl
def lg (w:bz) (d:Nat) (k:Int) (ks:List ak):Nat→Int
  | 0=>k
  | j+1=>match ks[j]? with
    | some x=>(fb w d (lg w d k ks j) x).2
    | none=>lg w d k ks j
theorem xg (w:bz) (d:Nat) (k:Int) (x:ak) (r:List ak):∀ j,lg w d k (x::r) (j+1)=lg w d (fb w d k x).2 r j
  | 0=>by simp [lg]
  | j+1=>by
    rw [lg,xg w d k x r j,List.getElem?_cons_succ];rfl
theorem M7 (w:bz) (d:Nat):∀ (ks:List ak) (k:Int),
    (∀ j x,ks[j]? = some x→(fb w d (lg w d k ks j) x).1=true)→hj w d k ks=(true,lg w d k ks ks.length)
  | [],_,_=>by rw [hj];rfl
  | x::r,k,h=>by
    have bq:(fb w d k x).1=true:=h 0 x C;rw [hj,g6 bq,M7 w d r _ (fun j y aL=>by rw [← xg];exact h (j+1) y (by simpa using aL)),g9,xg]
theorem M8 (w:bz) (d:Nat):∀ (ks:List ak) (k:Int) (j:Nat) (x:ak),ks[j]? = some x→(∀ (i:Nat) y,i<j→ks[i]? = some y→(fb w d (lg w d k ks i) y).1=true)→(fb w d (lg w d k ks j) x).1=false →
    hj w d k ks=(false,lg w d k ks (j+1))
  | [],_,_,_,h,_,_=>by simp at h
  | y::r,k,0,x,h,_,ab=>by
    obtain rfl:y=x:=by simpa using h
    have bL:(fb w d k y).1=false:=ab;rw [hj,f0 (by rw [bL];simp),xg];rfl
  | y::r,k,j+1,x,h,aR,ab=>by
    have bq:(fb w d k y).1=true:=aR 0 y (Nat.succ_pos _) C;rw [hj,g6 bq,xg];rw [xg] at ab;exact M8 w d r _ j x e2 (fun i z eU bG=>by rw [← xg];exact aR (i+1) z af (by simpa using bG)) ab
mutual
theorem M9:∀ (x:ak) (w:bz) (d:Nat) (k:Int),(fb w d k x).1=true→0≤(fb w d k x).2∧(fb w d k x).2≤k
  | .mk o a p c n ks,w,d,k,h=>by
    rw [fb] at h ⊢;split at h
    · cases h
    · rename_i aB
      rw [f0 aB];simp only [aj1,i8,not_or] at aB;split at h
      · rename_i az
        rw [g6 az];have:=M' ks w (d-1) (k-1) h af;omega
      · cases h
theorem M':∀ (ks:List ak) (w:bz) (d:Nat) (k:Int),(hj w d k ks).1=true→0≤k→0≤(hj w d k ks).2∧(hj w d k ks).2≤k
  | [],w,d,k,_,bq=>by rw [hj];exact ⟨bq,ak9 _⟩
  | x::r,w,d,k,h,bq=>by
    rw [hj] at h ⊢;split at h
    · rename_i ab
      rw [g6 ab];have U:=M9 x w d k ab;have ad:=M' r w d _ h U.1;omega
    · cases h
end
theorem Na {w:bz} {d:Nat} {ks:List ak} {k:Int} (bq:0≤k):∀ (j:Nat),(∀ (i:Nat) y,i<j→ks[i]? = some y→(fb w d (lg w d k ks i) y).1=true)→0≤lg w d k ks j∧lg w d k ks j≤k
  | 0,_=>⟨bq,ak9 _⟩
  | j+1,h=>by
    have U:=Na bq j fun i y aR ay=>h i y af ay
    rw [lg];cases ab:ks[j]? with
    | none=>exact U
    | some x=>
      have ad:=M9 x w d _ (h j x (aj6 _) ab);simp only;omega
theorem V' (w:bz) (up:List Nat) (lf:Nat) (y:ak) (d:Nat) (k:Int) (ax:d≤12) (lU:0<d)
  (h:bA d0 202 [fc w up,y.bK,.ptr lf 0,.int .i64 ((d-1:Nat):Int)] (me lf k) (fun o K=>o = .ret (.bool (fb w (d-1) k y).1)∧K=me lf (fb w (d-1) k y).2)) :
  dA d0 (.func 238 [] [.bw [fc w up] 0,.bw [.ptr lf 0] 0,.bw [.int .i64 (d:Int)] 0]) [y.bK] (me lf k) (fun o K=>o = .ret (.bool (fb w (d-1) k y).1)∧K=me lf (fb w (d-1) k y).2):=by
 refine dA.fx (first:=[]) (cap:=[.bw [fc w up] 0,.bw [.ptr lf 0] 0,.bw [.int .i64 (d:Int)] 0]) ?_;refine bA.bh ah Tryz.func238 C C fun s I=>?_
 have hw:t7 .i64 ((d:Int)-1)=((d-1:Nat):Int):=by rw [dz af af];omega
 rw [ak.b6] at h ⊢;rw [← hw] at h;unfold fc at h ⊢;refine dt ?_;refine aa.bX rfl rfl rfl rfl rfl h I (aG.all _) ?_ (fun _ _ ⟨h,_⟩ _=>by cases h);rintro _ _ ⟨⟨⟩,rfl⟩ I;rw [d6] at I ⊢;refine er ?_;exact Fin.bs I C aJ (aG.all _) ⟨rfl,rfl⟩
theorem Wa (w:bz) (up:List Nat) (hw:w.ps.length≤60) (lf:Nat):∀ (n:Nat) (f:ak) (d:Nat) (k:Int),f.size≤n→n<bC→d≤12→0≤k→k≤bC →
    bA d0 202 [fc w up,f.bK,.ptr lf 0,.int .i64 (d:Int)] (me lf k) (fun o K=>o = .ret (.bool (fb w d k f).1)∧K=me lf (fb w d k f).2):=by
  have an:=bD;intro n
  induction n with
  | zero=>intro x d k h;have:=x.size_eq;omega
  | succ n a1=>
    intro f d k az jn ax mx iF;have lN:t7 .i64 (k-1)=k-1:=dz af af;refine bA.bh ah Tryz.func202 C C fun s I=>?_
    have iL:=f.size_eq;have aB:=V9 w d k f;have U:=VC f.op;have ad:=HS f;have al:=VJ w up f.path af;have bf:=VF w up f.cls hw;rw [ak.b6] at ad ⊢;unfold fc bd at al;unfold fc at bf ⊢;unfold me at I ⊢;refine hD I ?_;intro I;rw [lN] at I ⊢
    repeat' (first|(with_reducible first|apply ae.seq|apply b0|apply fY|apply fh|apply hC|apply ae.ret|apply ae.skip|apply ae.block)|refine c4 C ?_|refine ae.cF ?_|refine aa.nil ?_|refine ae.fM C ?_|refine cv C ?_|refine aa.skip C C C ?_|refine aK.nil ?_|refine aK.step C ?_|refine aa.ec C C C C C cx ?_|refine aK.ec C C C C C cx ?_|(fail_if_success refine aa.same true C ?_);(fail_if_success refine aa.same false C ?_);refine aa.hh C C (fun h=>?_) (fun h=>?_)|(fail_if_success refine aK.same true C ?_);(fail_if_success refine aK.same false C ?_);refine aK.hh C C (fun h=>?_) (fun h=>?_)|refine ae.cond C (fun h=>?_) (fun h=>?_))
    all_goals first
      | (have key:fb w d k f=(false,k-1):=by
          clear a1 I U ad al bf az iL lN
          rw [aB]
          simp only [ik,kN,ak.c5] at *
          grind
         exact Fin.bs (K:=me lf (k-1)) I C aJ (by simp only [me];exact aX) ⟨by rw [key],by rw [key];rfl⟩)
      | (have Ef:f.kids=[]:=by
          clear a1 I U ad al bf az iL lN aB
          refine ai8 ?_
          simp only [ik,kN,ak.c5,so,d9] at *
          grind
         have key:fb w d k f=(ik w f,k-1):=by
          clear a1 I U ad al bf az iL lN
          rw [aB,Ef,hj]
          grind
         refine Fin.bs (K:=me lf (k-1)) I C (aQ.of_eq (ae7 ag.bool ?_)) (by simp only [me];exact aX) ⟨by rw [key],by rw [key];rfl⟩
         clear a1 I U ad al bf az iL lN aB key
         simp only [ik,kN,ak.c5,so,d9] at *
         grind)
      | skip
    have HV:ik w f=true:=by
      clear a1 I U ad al bf az iL lN aB;simp only [ik,kN,ak.c5,d9] at *;simp at *;grind
    have lU:0<d:=by
      rcases Nat.eq_zero_or_pos d with rfl|h
      · simp_all
      · exact h
    have Br:¬ k-1<0:=by
      clear a1 I U ad al bf;grind
    have key:fb w d k f=hj w (d-1) (k-1) f.kids:=by
      rw [aB,f0 cV,g6 HV]
    have hlen:=ak.qq f.kids
    have Ef:=V8 238 [] [.bw [fc w up] 0,.bw [.ptr lf 0] 0,.bw [.int .i64 (d:Int)] 0] f.kids (fun j=>me lf (lg w (d-1) (k-1) f.kids j)) (fun j=>match f.kids[j]? with|some x=>(fb w (d-1) (lg w (d-1) (k-1) f.kids j) x).1|none=>true) af (fun j x ab aR=>by
      have mf:=Na (w:=w) (d:=d-1) (ks:=f.kids) (k:=k-1) af j (fun i y eU ay=>by have:=aR i eU;simp only [ay] at this;simpa using this)
      have hm:=ak.h8 (d5 ab)
      have:=V' w up lf x d (lg w (d-1) (k-1) f.kids j) ax lU (a1 x (d-1) _ af af af mf.1 af)
      simp only [lg,ab]
      exact this)
    unfold fc at Ef;skip;refine aa.bX C C C C C Ef I (by simp only [me,lg];exact aX) ?_ (fun _ _ h _=>by rcases h with ⟨h,_⟩|⟨_,_,_,_,h,_⟩<;>cases h);rintro _ _ (⟨⟨⟩,rfl,g1⟩|⟨j,g1,g2,g3,⟨⟩,rfl⟩) I
    · have:=M7 w (d-1) f.kids (k-1) (fun j x ab=>by have:=g1 j (List.getElem?_eq_some_iff.1 ab).1;simp only [ab] at this;simpa using this)
      rw [key,this];refine er ?_;exact Fin.bs (K:=me lf _) I C aJ (by simp only [me,aa',d8];exact aX) ⟨rfl,rfl⟩
    · obtain ⟨x,ab,-⟩:=b8 (f:=ak.bK) g1
      simp only [ab] at g2;have:=M8 w (d-1) f.kids (k-1) j x ab (fun i y eU ay=>by have:=g3 i eU;simp only [ay] at this;simpa using this) (by simpa using g2);rw [key,this];refine er ?_;exact Fin.bs (K:=me lf _) I C aJ (by simp only [me,aa',d8];exact aX) ⟨rfl,rfl⟩
abbrev Bs (w:bz):List Nat:=pad (eY w.ps)
abbrev gu (w:bz):ag:=fc w (Bs w)
theorem Wb (w:bz) (hw:w.ps.length≤60) (f:ak) (a7:f.size<bC):eF d0 (.func 201 [] [.bw [gu w] 0]) [f.bK] (.bool (iJ w f)):=by
 have an:=bD;refine eF.fx (first:=[]) (cap:=[.bw [gu w] 0]) ?_;refine aT.bh ah Tryz.func201 C C fun s I=>?_
 rw [ak.b6];unfold gu fc
 repeat (first|(refine T1 I ?_;clear I;intro I)|refine aa.eb ah I rfl rfl rfl rfl rfl rfl rfl (fun cH I=>?_))
 have az:=Wa w (Bs w) hw cH f.size f 12 24 (g8 _) a7 af af af;rw [ak.b6] at az;unfold fc at az;refine aa.bX C C C C C az I (by simp only [me];exact aX) ?_ (fun _ _ ⟨h,_⟩ _=>by cases h);rintro _ _ ⟨⟨⟩,rfl⟩ I;rw [d6] at I ⊢;refine aa.mG I [] aX fun I=>?_
 refine er ?_;exact bB I
theorem Wc (w:bz) (hw:w.ps.length≤60) (l:List ak) (aC:l.length<bC) (a7:∀ f∈l,f.size<bC):aT d0 166 [gu w,.aA 6 (l.map ak.bK) .bb] (.bool (l.all (iJ w))):=by
 have an:=bD;refine aT.bh ah Tryz.func166 C C fun s I=>?_
 have U:=Vu 201 [] [.bw [gu w] 0] (iJ w) l aC (fun x ab=>Wb w hw x (a7 x ab));unfold gu fc at *;refine b' ?_;exact bB I
theorem HW (w:bz) (hw:gz w) (l:List ak) (aC:l.length<bC) (a7:∀ f∈l,f.size<bC):aT d0 122 [fz w,.aA 6 (l.map ak.bK) .bb] (.cw [gu w,.bool (l.all (iJ w))]):=by
 have an:=bD;refine aT.bh ah Tryz.func122 C C fun s I=>?_
 have U:=V6 w hw;have ad:=Wc w hw.ja l aC a7;unfold fz fE df bd at *;unfold gu fc at *;refine b' ?_;exact bB I
theorem Wd (w:bz) (hw:gz w) (f:ak) (a7:f.size<bC):aT d0 229 [fz w,f.bK] (.int .i64 (if iJ w f then 0 else 2)):=by
 have an:=bD;refine aT.bh ah Tryz.func229 C C fun s I=>?_
 have U:=HW w hw [f] cV (by intro g av;rw [H1] at av;subst av;exact a7);have ad:=VK (iJ w f);rw [ae3,ah1,ak.b6] at U;rw [ak6,ao3,aq5] at U;rw [ak.b6];unfold fz fE df bd at *;refine b' ?_;exact bB I
theorem Nb (v:Int×Int) (n:Int):aT d0 170 [gk v,.int .i64 n] (.bool (hO n v)):=by
 have an:=bD;refine aT.bh ah Tryz.func170 C C fun s I=>?_
 unfold gk
 repeat' (first|(with_reducible first|apply ae.seq|apply b0|apply fY|apply fh|apply hC|apply ae.ret|apply ae.skip|apply ae.block)|refine c4 C ?_|refine ae.cF ?_|refine aa.nil ?_|refine cv C ?_|refine aa.skip C C C ?_|(fail_if_success refine aa.same true C ?_);(fail_if_success refine aa.same false C ?_);refine aa.hh C C (fun h=>?_) (fun h=>?_)|refine ae.cond C (fun h=>?_) (fun h=>?_))
 all_goals (refine Fin.cB I C (aQ.of_eq (ae7 ag.bool ?_));clear I;simp only [hO,kN];grind)
theorem We (w:bz) (m:Nat) {j:Nat} (o:Int) (h:w.owner[j]? = some o):((ag3 (j+1)).filter fun s=>m.testBit (w.owner.getD s 0).toNat).map (fun (s:Nat)=>(s:Int))=(((ag3 j).filter fun s=>m.testBit (w.owner.getD s 0).toNat).map fun (s:Nat)=>(s:Int))++(if m.testBit o.toNat then [(j:Int)] else []):=by
 rw [List.range_succ,List.filter_append,ad'];congr 1;have:w.owner.getD j 0=o:=by rw [d7,h];rfl
 rw [List.filter_cons,List.filter_nil,this];cases hm:m.testBit o.toNat<;>rfl
theorem Nc (w:bz) (hw:gz w) (c:Nat) (aB:c<3+w.ps.length):aT d0 205 [gu w,.int .i64 (c:Int)] (bd (oM w ((eY w.ps).getD c 0))):=by
 have an:=bD;refine aT.bh ah Tryz.func205 C C fun s I=>?_
 have rG:=hw.ja;have fZ:=hw.bp;have kF:=tN w.ps;obtain ⟨m,hm⟩:∃ m,(eY w.ps)[c]? = some m:=⟨_,f7 af⟩;have mg:(eY w.ps).getD c 0=m:=by rw [d7,hm];rfl
 have ht:=yN rG m (d5 hm);rw [mg];obtain ⟨xs,c'⟩:∃ xs:Nat→List ag,∀ j,xs j=(((ag3 j).filter fun s=>m.testBit (w.owner.getD s 0).toNat).map fun (s:Nat)=>(s:Int)).map a8:=⟨_,fun _=>rfl⟩;have bq:xs 0=[]:=by rw [c'];rfl
 have fm:∀ j,(xs j).length≤j:=fun j=>by
  rw [c',d9,d9];exact am' (aj2 _ _) ba
 unfold gu fc;have vf:=fun s o (ar:w.owner[s]? = some ((o:Nat):Int)) ai=>M4 w (Bs w) c s m o af (yO hm) ht ar ai
 unfold fc at vf;unfold qz fE bd at *;refine fP ?_;refine ae.h0 I 3 1 0 fun I=>?_
 refine ae.b5 [0,1,12] C I (σ:=Nat×bN) (fun q=>[(13,.int .i64 (q.1:Int)),(5,.aA 1 (xs q.1) q.2)]) (fun q=>[(q.2,.row 3 1 (xs q.1).length)]) (fun q=>q.1≤w.owner.length) (fun q=>w.owner.length-q.1) (0,.nil) (g7 _) ⟨⟨_,rfl,aJ⟩,⟨_,rfl,by rw [bq];exact aQ.nil gN⟩,trivial⟩ xd ?_;rintro ⟨j,own⟩ aL I;simp only at aL I ⊢;refine b7 ?_;refine ae.cond C (fun au=>?_) (fun aV=>?_);rotate_left;have aV:j=w.owner.length:=by
  have:w.owner.length≤j:=by simpa using aV
  omega
 ·subst aV
  have he:xs w.owner.length=(oM w m).map a8:=by rw [c'];rfl
  rw [he];refine ez ?_;exact Fin.cB I C aQ.bb
 have au:j<w.owner.length:=by simpa using au
 obtain ⟨o,ai⟩:∃ o,w.owner[j]? = some o:=⟨_,f7 au⟩;obtain ⟨g1,g2⟩:=hw.own o (d5 ai);obtain ⟨q,rfl⟩:∃ q:Nat,o=q:=⟨o.toNat,by omega⟩;have ar:=c' (j+1);rw [We w m _ ai,ad',← c'] at ar;have l1:=fm j;have U:=vf j q ai af;refine b' ?_;refine ae.cond C (fun aw=>?_) (fun aw=>?_)
 ·have ar:xs (j+1)=xs j++[.int .i64 (j:Int)]:=by rw [ar];simp [aw,a8]
  have cR:(xs (j+1)).length=(xs j).length+1:=by rw [ar];simp
  refine jE ?_;refine aa.fO ah I C C C C C C C di C C C C C C C C aW gY jS af (fun bR I=>?_);refine fj ?_;refine bn.mk (j+1,.own bR) I au kM u9 D9
 ·have ar:xs (j+1)=xs j:=by rw [ar];simp [aw]
  refine gx ?_;refine bn.mk (j+1,own) I au kM Bf D9
abbrev hx (bm:List eV):ag := .aA 2 (bm.map jc) .bb
abbrev lh (l:List (Int×Int)):ag := .aA 2 (l.map gk) .bb
theorem Wf (bm:List eV) (v:Int×Int):eF d0 (.func 206 [] [.bw [hx bm] 0]) [gk v] (.bool (hO bm.length v)):=by
 have an:=bD;refine eF.fx (first:=[]) (cap:=[.bw [hx bm] 0]) ?_;refine aT.bh ah Tryz.func206 C C fun s I=>?_
 have h:=Nb v (bm.map jc).length;rw [show hO ((bm.map jc).length:Int) v=hO bm.length v by rw [d9]] at h;unfold gk at *;refine b' ?_;exact bB I
theorem Wg (bm:List eV) (v:Int×Int):eF d0 (.func 169 [] [.bw [hx bm] 0]) [gk v] (.bool (hO bm.length v)):=by
 have an:=bD;refine eF.fx (first:=[]) (cap:=[.bw [hx bm] 0]) ?_;refine aT.bh ah Tryz.func169 C C fun s I=>?_
 have h:=Nb v (bm.map jc).length;rw [show hO ((bm.map jc).length:Int) v=hO bm.length v by rw [d9]] at h;unfold gk at *;refine b' ?_;exact bB I
theorem Wh (w:bz) (hw:gz w) (bm:List eV) (o:eV) (ai:o.bp.length<bC):eF d0 (.func 204 [] [.bw [gu w] 0,.bw [hx bm] 0]) [jc o] (.bool (AW w bm.length o)):=by
 have an:=bD;refine eF.fx (first:=[]) (cap:=[.bw [gu w] 0,.bw [hx bm] 0]) ?_;refine aT.bh ah Tryz.func204 C C fun s I=>?_
 obtain ⟨cls,bp⟩:=o;have rG:=hw.ja;have U:aT d0 199 [gu w,.int .i64 cls] (.bool (yP w cls)):=MW w (Bs w) cls hw.ja;have al:=MT 206 [] [.bw [hx bm] 0] (hO bm.length) bp ai (fun v _=>Wf bm v);have hm:AW w bm.length ⟨cls,bp⟩=(yP w cls&&(decide (bp.length=(oM w ((eY w.ps).getD cls.toNat 0)).length)&&bp.all (hO bm.length))):=rfl;rw [hm];unfold jc;cases aB:yP w cls with
 | false=>
  rw [aB] at U;unfold gu fc at *;refine b' ?_;exact bB I
 | true=>
  rw [aB] at U;unfold yP at aB;simp only [f8,i8] at aB;obtain ⟨c,rfl⟩:∃ c:Nat,cls=c:=⟨cls.toNat,by omega⟩;have ad:=Nc w hw c af;unfold bd at ad;unfold gu fc at *
  repeat' (first|(with_reducible first|apply ae.seq|apply b0|apply ae.ret)|refine c4 C ?_|refine aK.nil ?_|refine aK.step C ?_|refine ae.l6 ah mixed C ?_|refine aK.ec C C C C C cx ?_|(fail_if_success refine aK.same true C ?_);(fail_if_success refine aK.same false C ?_);refine aK.hh C C (fun h=>?_) (fun h=>?_))
  all_goals (refine Fin.cB I C (aQ.of_eq (ae7 ag.bool ?_));clear I U ad al;rw [show ((c:Nat):Int).toNat=c from ae1 c];simp only [d9] at *;grind)
theorem Wi (w:bz) (hw:gz w) (bm:List eV) (aC:bm.length<bC) (ai:∀ o∈bm,o.bp.length<bC):aT d0 167 [gu w,hx bm] (.bool (AX w bm)):=by
 have an:=bD;refine aT.bh ah Tryz.func167 C C fun s I=>?_
 have U:=VB 204 [] [.bw [gu w] 0,.bw [hx bm] 0] (AW w bm.length) bm aC (fun o h=>Wh w hw bm o (ai o h));unfold hx gu fc at *
 repeat' (first|(with_reducible first|apply ae.seq|apply b0|apply ae.ret)|refine c4 C ?_|refine ae.cF ?_|refine aa.nil ?_|refine cv C ?_|refine aa.skip C C C ?_|refine aa.ec C C C C C cx ?_|(fail_if_success refine aa.same true C ?_);(fail_if_success refine aa.same false C ?_);refine aa.hh C C (fun h=>?_) (fun h=>?_))
 all_goals (refine Fin.cB I C (aQ.of_eq (ae7 ag.bool ?_));clear I U;simp only [AX,d9] at *;grind)
theorem Wj (w:bz) (hw:gz w) (bm:List eV) (args:List (Int×Int)) (aC:bm.length<bC) (ai:∀ o∈bm,o.bp.length<bC) (a6:args.length<bC):aT d0 123 [gu w,hx bm,lh args] (.bool (pJ w bm args)):=by
 have an:=bD;refine aT.bh ah Tryz.func123 C C fun s I=>?_
 have U:=Wi w hw bm aC ai;have ad:=MT 169 [] [.bw [hx bm] 0] (hO bm.length) args a6 (fun v _=>Wg bm v);unfold hx lh gu fc at *
 repeat' (first|(with_reducible first|apply ae.seq|apply b0|apply ae.ret)|refine c4 C ?_|refine ae.cF ?_|refine aa.nil ?_|refine cv C ?_|refine aa.skip C C C ?_|refine aa.ec C C C C C cx ?_|(fail_if_success refine aa.same true C ?_);(fail_if_success refine aa.same false C ?_);refine aa.hh C C (fun h=>?_) (fun h=>?_))
 all_goals (refine Fin.cB I C (aQ.of_eq (ae7 ag.bool ?_));clear I U ad;simp only [pJ,d9] at *;grind)
theorem Wk (w:bz):∀ (n:Nat) (f:ak),f.size≤n→n<bC→gH w f=true→aT d0 124 [f.bK] (.int .i64 (lI f)):=by
 have an:=bD;intro n
 induction n with
 | zero=>intro x h;have:=x.size_eq;omega
 | succ n a1=>
  intro f az jn av;refine aT.bh ah Tryz.func124 C C fun s I=>?_
  have iL:=f.size_eq;have hlen:=ak.qq f.kids;have hP:=HS f;rw [oL,f8] at av;rw [ak.b6] at hP ⊢;rw [DU];have a6:f.c5=true→t7 .i64 (f.arg+1)=f.arg+1:=fun aC=>by
   have az:=av.1;simp only [ik,aC,ag7,f8,i8] at az;exact dz af af
  cases aC:f.c5 with
  | true=>
   rw [aC] at hP;refine b' ?_;refine ae.b5 [12,13] C I (σ:=Nat) (fun j=>[(14,.int .i64 (j:Int)),(3,.int .i64 (jb (if f.c5 then f.arg+1 else 0) (f.kids.take j)))]) (fun _=>[]) (fun j=>j≤f.kids.length) (fun j=>f.kids.length-j) 0 (g7 _) (by repeat (first|exact trivial|refine ⟨⟨_,rfl,aJ⟩,?_⟩|refine ⟨⟨_,rfl,aQ.of_eq u'⟩,?_⟩)) aX ?_;rintro j aL I;refine b7 ?_;refine ae.cond C (fun au=>?_) (fun aV=>?_);rotate_left
   ·have aV:j=f.kids.length:=by simp at aV;omega
    subst aV;rw [ae5];refine ez ?_;exact Fin.cB I C (aQ.of_eq (by rw [aC]))
   have au:j<f.kids.length:=by simpa using au
   obtain ⟨k,aE,eH⟩:=b8 (f:=ak.bK) au;have hm:=ak.h8 (d5 aE);have aB:=a1 k af af (kr av.2 (d5 aE));rw [ak.b6] at eH aB
   repeat (first|(refine Lx I ?_;clear I;intro I)|refine aa.eb ah I rfl rfl rfl rfl rfl rfl rfl (fun cH I=>?_)|(refine qo ?_))
   refine bn.mk (j+1) I au (by repeat (first|exact trivial|refine ⟨⟨_,rfl,aJ⟩,?_⟩|refine ⟨⟨_,rfl,aQ.of_eq u7⟩,?_⟩)) aX oR
  | false=>
   rw [aC] at hP;refine b' ?_;refine ae.b5 [12,13] C I (σ:=Nat) (fun j=>[(14,.int .i64 (j:Int)),(3,.int .i64 (jb (if f.c5 then f.arg+1 else 0) (f.kids.take j)))]) (fun _=>[]) (fun j=>j≤f.kids.length) (fun j=>f.kids.length-j) 0 (g7 _) (by repeat (first|exact trivial|refine ⟨⟨_,rfl,aJ⟩,?_⟩|refine ⟨⟨_,rfl,aQ.of_eq u'⟩,?_⟩)) aX ?_;rintro j aL I;refine b7 ?_;refine ae.cond C (fun au=>?_) (fun aV=>?_);rotate_left
   ·have aV:j=f.kids.length:=by simp at aV;omega
    subst aV;rw [ae5];refine ez ?_;exact Fin.cB I C (aQ.of_eq (by rw [aC]))
   have au:j<f.kids.length:=by simpa using au
   obtain ⟨k,aE,eH⟩:=b8 (f:=ak.bK) au;have hm:=ak.h8 (d5 aE);have aB:=a1 k af af (kr av.2 (d5 aE));rw [ak.b6] at eH aB
   repeat (first|(refine Lx I ?_;clear I;intro I)|refine aa.eb ah I rfl rfl rfl rfl rfl rfl rfl (fun cH I=>?_)|(refine qo ?_))
   refine bn.mk (j+1) I au (by repeat (first|exact trivial|refine ⟨⟨_,rfl,aJ⟩,?_⟩|refine ⟨⟨_,rfl,aQ.of_eq u7⟩,?_⟩)) aX oR
def tT:ag := .iface 298 (.agg [])
theorem Wl (_u:Unit):aT d0 223 [.bool true] (.cw []):=by
 have an:=bD;refine aT.bh ah Tryz.func223 C C fun s I=>?_
 refine bl ?_;exact bB I
theorem Wm (_u:Unit):bA d0 223 [.bool false] ([]) (fun o K=>o = .panic tT∧K=[]):=by
 have an:=bD;refine bA.bh ah Tryz.func223 C C fun s I=>?_
 refine bl ?_;refine aa.panic C C C C ?_;exact Fin.fi I aJ .nil ⟨rfl,rfl⟩
theorem Nd (n:Int):aT d0 257 [.int .i64 n] (.bool (kN n)):=by
 have an:=bD;refine aT.bh ah Tryz.func257 C C fun s I=>?_
 repeat' (first|(with_reducible first|apply ae.seq|apply b0|apply ae.ret)|refine c4 C ?_|refine ae.cF ?_|refine aa.nil ?_|refine cv C ?_|refine aa.skip C C C ?_|(fail_if_success refine aa.same true C ?_);(fail_if_success refine aa.same false C ?_);refine aa.hh C C (fun h=>?_) (fun h=>?_))
 all_goals (refine Fin.cB I C (aQ.of_eq (ae7 ag.bool ?_));clear I;unfold kN;grind)
theorem Wn (c:fR) (aB:c.parents.length<bC):eF d0 (.func 232 [] []) [jo c] (bd c.parents):=by
 have an:=bD;refine eF.fx (first:=[]) (cap:=[]) ?_;refine aT.bh ah Tryz.func232 C C fun s I=>?_
 have U:=Bk c.parents .bb aB;unfold jo nt bd at *;refine b' ?_;exact bB I
theorem Wo (cs:List fR) (aC:cs.length<bC) (hI:∀ c∈cs,c.parents.length<bC):aT d0 231 [.aA 3 (cs.map jo) .bb,.func 232 [] []] (df (cs.map fR.parents)):=by
 have an:=bD;refine aT.bh ah Tryz.func231 C C fun s I=>?_
 obtain ⟨xs,c'⟩:∃ xs:Nat→List ag,∀ j,xs j=((cs.take j).map fR.parents).map bd:=⟨_,fun _=>rfl⟩;have bq:xs 0=[]:=by rw [c'];rfl
 have fm:∀ j,(xs j).length≤cs.length:=fun j=>by
  rw [c',d9,d9];exact al0 _ _
 unfold df;refine fP ?_;refine ae.h0 I 23 1 0 fun I=>?_
 refine ae.b5 [1,8,9] C I (σ:=Nat×bN) (fun q=>[(10,.int .i64 (q.1:Int)),(5,.aA 1 (xs q.1) q.2)]) (fun q=>[(q.2,.row 23 1 (xs q.1).length)]) (fun q=>q.1≤cs.length) (fun q=>cs.length-q.1) (0,.nil) (g7 _) ⟨⟨_,rfl,aJ⟩,⟨_,rfl,by rw [bq];exact aQ.nil gN⟩,trivial⟩ xd ?_;rintro ⟨j,own⟩ aL I;simp only at aL I ⊢;refine b7 ?_;refine ae.cond C (fun au=>?_) (fun aV=>?_);rotate_left;have aV:j=cs.length:=by
  have:cs.length≤j:=by simpa using aV
  omega
 ·subst aV
  have he:xs cs.length=(cs.map fR.parents).map bd:=by rw [c',ae5]
  rw [he];have Nf:=Vx ((cs.map fR.parents).map bd) own;refine c2 ?_;exact Fin.cB I C aQ.bb
 have au:j<cs.length:=by simpa using au
 obtain ⟨c,ay,c8⟩:=b8 (f:=jo) au;have ar:=c' (j+1);rw [il ay,ad',ad',← c'] at ar;have ar:xs (j+1)=xs j++[.aA 1 (c.parents.map a8) .bb]:=ar;have cR:(xs (j+1)).length=(xs j).length+1:=by rw [ar];simp
 have l1:=fm j;have n6:=Wn c (hI c (d5 ay));unfold jo nt bd at *;refine et ?_;refine aa.fO ah I C C C C C C C di C C C C C C C C aW gY pE af (fun bR I=>?_);refine fj ?_;refine bn.mk (j+1,.own bR) I au kM u9 (by show cs.length-(j+1)<cs.length-j;omega)
structure ga (p:bT):Prop where
 cls:p.cm.length<bC
 each:∀ c∈p.cm,c.parents.length<bC∧c.bp.length<bC∧c.inits.length<bC
 ef:p.ef.length<bC
 Eg:p.methods.length<bC
 facts:∀ m∈p.methods,3*m.fact.size+3<bC
 nodes:p.nodes.length<bC
 kids:∀ x∈p.nodes,x.kids.length<bC
theorem Ng (p:bT) (aF:ga p):aT d0 188 [cW p] (df (hk p)):=by
 have an:=bD;refine aT.bh ah Tryz.func188 C C fun s I=>?_
 have U:=Wo p.cm aF.cls (fun c h=>(aF.each c h).1);unfold cW cZ;unfold df hk at *;refine b' ?_;exact bB I
theorem Nh (f:ak):aT d0 134 [f.bK] (.bool f.c5):=by
 have an:=bD;refine aT.bh ah Tryz.func134 C C fun s I=>?_
 rw [ak.b6]
 repeat' (first|(with_reducible first|apply ae.seq|apply b0|apply ae.ret)|refine c4 C ?_|refine ae.cF ?_|refine aa.nil ?_|refine cv C ?_|refine aa.skip C C C ?_|(fail_if_success refine aa.same true C ?_);(fail_if_success refine aa.same false C ?_);refine aa.hh C C (fun h=>?_) (fun h=>?_))
 all_goals (refine Fin.cB I C (aQ.of_eq (ae7 ag.bool ?_));clear I;unfold ak.c5;grind)
theorem Wp (w:bz) (c:Int) (hw:w.ps.length≤60):aT d0 132 [fz w,.int .i64 c] (.bool (decide (c≥0)&&decide (c<3+(w.ps.length:Int)))):=by
 have an:=bD;refine aT.bh ah Tryz.func132 C C fun s I=>?_
 unfold fz fE df bd;have dm:t7 .i64 (3+((w.ps.map bd).length:Int))=3+(w.ps.length:Int):=by rw [d9,dz af af]
 unfold bd at dm
 repeat' (first|(with_reducible first|apply ae.seq|apply b0|apply ae.ret)|refine c4 C ?_|refine ae.cF ?_|refine aa.nil ?_|refine cv C ?_|refine aa.skip C C C ?_|(fail_if_success refine aa.same true C ?_);(fail_if_success refine aa.same false C ?_);refine aa.hh C C (fun h=>?_) (fun h=>?_))
 all_goals exact Fin.cB I C (aQ.of_eq sx)
theorem Wq (w:bz) (l:List Int) (aC:l.length<bC):aT d0 133 [fz w,bd l] (.bool (l.all (fun c=>decide (c≥0)&&decide (c<(w.owner.length:Int)))&&decide (l.length≤2))):=by
 have an:=bD;refine aT.bh ah Tryz.func133 C C fun s I=>?_
 unfold fz fE df bd;refine fP ?_;refine ae.b5 [0,1,2,7,8] C I (σ:=Nat) (fun j=>[(9,.int .i64 (j:Int))]) (fun _=>[]) (fun j=>j≤l.length∧l.all (fun c=>decide (c≥0)&&decide (c<(w.owner.length:Int)))=(l.drop j).all (fun c=>decide (c≥0)&&decide (c<(w.owner.length:Int)))) (fun j=>l.length-j) 0 ⟨g7 _,rfl⟩ (cl C) aX ?_;rintro j ⟨aL,aq⟩ I
 try simp only at aL aq I ⊢
 refine b7 ?_;refine ae.cond C (fun au=>?_) (fun aV=>?_);rotate_left
 ·have aV:j=l.length:=by simp at aV;omega
  rw [eD af,ao3] at aq;rw [aq,f5];refine ez ?_;exact Fin.cB I C (aQ.of_eq sx)
 have au:j<l.length:=by simpa using au
 obtain ⟨x,ab,bL⟩:=b8 (f:=a8) au;rw [drop_cons ab,ak6] at aq;unfold a8 at bL;refine dG ?_;cases U:decide (x≥0) with
 | false=>
  rw [U,f9,f9] at aq;rw [aq,f9];refine aa.dY 15 C (by simp at U ⊢;omega) ?_;refine bl ?_;exact bB I
 | true=>
 rw [U,f5] at aq;refine aa.dh 15 C (by simp at U ⊢;omega) ?_;refine gr ?_;refine ae.cond C (fun ad=>?_) (fun ad=>?_)
 ·rw [show decide (x<(w.owner.length:Int))=false by simp at ad ⊢;omega,f9] at aq
  rw [aq,f9];refine kp ?_;exact bB I
 rw [show decide (x<(w.owner.length:Int))=true by simp at ad ⊢;omega,f5] at aq;refine gx ?_;exact bn.mk (j+1) I ⟨au,aq⟩ cj aX n4
theorem Wr:∀ (n:Nat) (f:ak) (fS:Int),f.size≤n→n<bC → -bC≤fS→fS≤bC→aT d0 131 [f.bK,.int .i64 fS] (.int .i64 (nq f fS)):=by
 have an:=bD;intro n
 induction n with
 | zero=>intro f fS h;have:=f.size_eq;omega
 | succ n a1=>
 intro f fS az jn nS iU;have iL:=f.size_eq;have hlen:=ak.qq f.kids;have Nf:=u3 f.kids;refine aT.bh ah Tryz.func131 C C fun s I=>?_
 rw [ak.b6];refine fP ?_;refine ae.b5 [1,2] C I (σ:=Nat×Int) (fun q=>[(6,.int .i64 (q.1:Int)),(5,.int .i64 q.2)]) (fun _=>[]) (fun q=>q.1≤f.kids.length∧pP f.kids fS 1=pP (f.kids.drop q.1) fS q.2∧1≤q.2∧q.2+kO (f.kids.drop q.1)≤1+kO f.kids) (fun q=>f.kids.length-q.1) (0,1) ⟨g7 _,rfl,ak9 _,ak9 _⟩ (cl C) aX ?_;rintro ⟨j,m⟩ ⟨aL,aq,hm,aB⟩ I
 try simp only at aL aq hm aB I ⊢
 have Ws:=u3 (f.kids.drop j);refine jE ?_;by_cases au:j<f.kids.length;rotate_left
 ·rw [eD af,pP] at aq
  refine aa.dh 12 C cV ?_;rw [L5,aq];refine bl ?_;exact bB I
 refine aa.dY 12 C cV ?_;obtain ⟨x,ab,bL⟩:=b8 (f:=ak.bK) au;rw [drop_cons ab,pP] at aq;rw [drop_cons ab,kO] at aB;rw [drop_cons ab,kO] at Ws;refine gr ?_;refine ae.cond C (fun ad=>?_) (fun ad=>?_);rotate_left
 ·rw [f0 s8] at aq
  rw [L5,aq];refine ez ?_;exact bB I
 have ad:m≤fS:=by simpa using ad
 rw [g6 ad] at aq;have fH:=ak.h8 (d5 ab);have Ni:=D3 x;have y5:=(Hl x (fS-m)).2.2;have ada:=u3 (f.kids.drop (j+1));have hM:=a1 x (fS-m) af af af af;rw [ak.b6] at hM bL;rw [show fS-m=t7 .i64 (fS-m) by rw [dz af af]] at hM;refine b' ?_;exact bn.mk (j+1,m+nq x (fS-m)) I ⟨au,aq,by show 1≤m+nq x (fS-m);omega,by show m+nq x (fS-m)+kO (f.kids.drop (j+1))≤_;omega⟩ (by repeat (first|exact trivial|refine ⟨⟨_,rfl,aJ⟩,?_⟩|refine ⟨⟨_,rfl,aQ.of_eq (by (first|rw [h7 af]|(rw [dz GY GY,dz af af])))⟩,?_⟩)) aX oR
theorem Wt (f:ak) (a7:f.size<bC):aT d0 85 [f.bK] (.int .i64 (nq f 24)):=by
 have an:=bD;refine aT.bh ah Tryz.func85 C C fun s I=>?_
 have U:=Wr f.size f 24 (g8 _) a7 af af;rw [ak.b6] at *;refine b' ?_;exact bB I
theorem Wu:∀ (n:Nat) (f:ak),f.size≤n→n<bC→aT d0 86 [f.bK] (.int .i64 (nr f)):=by
 have an:=bD;intro n
 induction n with
 | zero=>intro f h;have:=f.size_eq;omega
 | succ n a1=>
 intro f az jn;have iL:=f.size_eq;have hlen:=ak.qq f.kids;have Nj:=Hn f;refine aT.bh ah Tryz.func86 C C fun s I=>?_
 rw [UO] at Nj ⊢;rw [ak.b6];refine fP ?_;refine ae.b5 [1,7,8] C I (σ:=Nat×Int) (fun q=>[(9,.int .i64 (q.1:Int)),(3,.int .i64 q.2)]) (fun _=>[]) (fun q=>q.1≤f.kids.length∧l' 0 f.kids=l' q.2 (f.kids.drop q.1)∧0≤q.2) (fun q=>f.kids.length-q.1) (0,0) ⟨g7 _,rfl,ak9 _⟩ (cl C) aX ?_;rintro ⟨j,m⟩ ⟨aL,aq,hm⟩ I
 try simp only at aL aq hm I ⊢
 refine b7 ?_;refine ae.cond C (fun au=>?_) (fun aV=>?_);rotate_left
 ·have aV:j=f.kids.length:=by simp at aV;omega
  rw [eD af,l'] at aq;rw [aq] at Nj ⊢;refine ez ?_;exact Fin.cB I C (aQ.of_eq (by rw [dz af af]))
 have au:j<f.kids.length:=by simpa using au
 obtain ⟨x,ab,bL⟩:=b8 (f:=ak.bK) au;rw [drop_cons ab,l'] at aq;have fH:=ak.h8 (d5 ab);have Ni:=Hn x;have hM:=a1 x af af;rw [ak.b6] at hM bL;refine et ?_;exact bn.mk (j+1,max m (nr x)) I ⟨au,aq,by show 0≤max m (nr x);omega⟩ (by repeat (first|exact trivial|refine ⟨⟨_,rfl,aJ⟩,?_⟩|refine ⟨⟨_,rfl,aQ.of_eq (by (first|rw [h7 af]|(congr 1;split<;>omega)))⟩,?_⟩)) aX oR
theorem Wv (w:bz):∀ (n:Nat) (f:ak),f.size≤n→n<bC→gH w f=true→aT d0 137 [f.bK] (.int .i64 (lI f)):=by
 have an:=bD;intro n
 induction n with
 | zero=>intro x h;have:=x.size_eq;omega
 | succ n a1=>
  intro f az jn av;refine aT.bh ah Tryz.func137 C C fun s I=>?_
  have iL:=f.size_eq;have hlen:=ak.qq f.kids;have hP:=Nh f;rw [oL,f8] at av;rw [ak.b6] at hP ⊢;rw [DU];have a6:f.c5=true→t7 .i64 (f.arg+1)=f.arg+1:=fun aC=>by
   have az:=av.1;simp only [ik,aC,ag7,f8,i8] at az;exact dz af af
  cases aC:f.c5 with
  | true=>
   rw [aC] at hP;refine b' ?_;refine ae.b5 [1,12,13] C I (σ:=Nat) (fun j=>[(14,.int .i64 (j:Int)),(3,.int .i64 (jb (if f.c5 then f.arg+1 else 0) (f.kids.take j)))]) (fun _=>[]) (fun j=>j≤f.kids.length) (fun j=>f.kids.length-j) 0 (g7 _) (by repeat (first|exact trivial|refine ⟨⟨_,rfl,aJ⟩,?_⟩|refine ⟨⟨_,rfl,aQ.of_eq u'⟩,?_⟩)) aX ?_;rintro j aL I;refine b7 ?_;refine ae.cond C (fun au=>?_) (fun aV=>?_);rotate_left
   ·have aV:j=f.kids.length:=by simp at aV;omega
    subst aV;rw [ae5];refine ez ?_;exact Fin.cB I C (aQ.of_eq (by rw [aC]))
   have au:j<f.kids.length:=by simpa using au
   obtain ⟨k,aE,eH⟩:=b8 (f:=ak.bK) au;have hm:=ak.h8 (d5 aE);have aB:=a1 k af af (kr av.2 (d5 aE));rw [ak.b6] at eH aB;refine et ?_;refine bn.mk (j+1) I au (by repeat (first|exact trivial|refine ⟨⟨_,rfl,aJ⟩,?_⟩|refine ⟨⟨_,rfl,aQ.of_eq u7⟩,?_⟩)) aX oR
  | false=>
   rw [aC] at hP;refine b' ?_;refine ae.b5 [1,12,13] C I (σ:=Nat) (fun j=>[(14,.int .i64 (j:Int)),(3,.int .i64 (jb (if f.c5 then f.arg+1 else 0) (f.kids.take j)))]) (fun _=>[]) (fun j=>j≤f.kids.length) (fun j=>f.kids.length-j) 0 (g7 _) (by repeat (first|exact trivial|refine ⟨⟨_,rfl,aJ⟩,?_⟩|refine ⟨⟨_,rfl,aQ.of_eq u'⟩,?_⟩)) aX ?_;rintro j aL I;refine b7 ?_;refine ae.cond C (fun au=>?_) (fun aV=>?_);rotate_left
   ·have aV:j=f.kids.length:=by simp at aV;omega
    subst aV;rw [ae5];refine ez ?_;exact Fin.cB I C (aQ.of_eq (by rw [aC]))
   have au:j<f.kids.length:=by simpa using au
   obtain ⟨k,aE,eH⟩:=b8 (f:=ak.bK) au;have hm:=ak.h8 (d5 aE);have aB:=a1 k af af (kr av.2 (d5 aE));rw [ak.b6] at eH aB;refine et ?_;refine bn.mk (j+1) I au (by repeat (first|exact trivial|refine ⟨⟨_,rfl,aJ⟩,?_⟩|refine ⟨⟨_,rfl,aQ.of_eq u7⟩,?_⟩)) aX oR
def xh (w:bz) (f:ak):Bool:=
 if f.op=2 then decide (f.n=0)&&(decide (f.cls≥0)&&decide (f.cls<3+(w.ps.length:Int)))
 else if f.op=3∨f.op=4 then decide (f.cls=0)&&kN f.n
 else decide (f.op=1∨5≤f.op∧f.op≤7)
def vg (w:bz) (f:ak):Bool:=
 decide (f.kids.length=so f.op)&&(decide (f.arg≥0)&&(decide (f.arg<3)&&(f.path.all (fun c=>decide (c≥0)&&decide (c<(w.owner.length:Int)))&&(decide (f.path.length≤2) &&
  (f.c5||(decide (f.arg=0)&&(decide (f.path.length=0)&&(decide (f.cls=0)&&decide (f.n=0)))))))))
theorem Ww (w:bz) (f:ak):ik w f=(xh w f&&vg w f):=by
 rw [af7];unfold ik xh vg ak.c5 kN;simp only [f8,aj1,i8,ah2];grind
theorem Wx (w:bz) (hw:w.ps.length≤60):∀ (n:Nat) (f:ak),f.size≤n→n<bC→aT d0 87 [fz w,f.bK] (.bool (gH w f)):=by
  have an:=bD;intro n
  induction n with
  | zero=>intro x h;have:=x.size_eq;omega
  | succ n a1=>
    intro f az jn;refine aT.bh ah Tryz.func87 C C fun s I=>?_
    have iL:=f.size_eq;have hlen:=ak.qq f.kids;have ad:=Nh f;have al:=Wq w f.path af;have bf:=Wp w f.cls hw;rw [oL,Ww];rw [ak.b6] at ad ⊢;unfold fz fE df bd at al bf ⊢;refine ae.seq ?_
    (repeat (first|with_reducible apply b0|refine c4 C ?_|refine ae.cF ?_|refine aa.nil ?_|refine cv C ?_));refine ae.seq ?_
    (repeat (first|with_reducible apply b0|refine c4 C ?_|refine ae.cF ?_|refine aa.nil ?_|refine cv C ?_));refine ae.seq (ae.Uv (σ:=Unit) (fun _=>[(2,.bw [.aA 1 (w.ps.map fun l => .aA 1 (l.map a8) .bb) .bb,.aA 1 (w.owner.map a8) .bb] 0),(3,.bw f.cells 0),(5,.int .i64 (so f.op))]) (fun _=>[]) (fun _=>xh w f=true) ?_ ?_)
    · repeat' (first|(with_reducible first|apply ae.seq|apply b0|apply fh|apply hC|apply ae.ret|apply ae.skip|apply ae.block)|refine c4 C ?_|refine ae.cF ?_|refine aa.nil ?_|refine ae.fM C ?_|refine cv C ?_|refine aa.skip C C C ?_|refine aa.ec C C C C C cx ?_|(fail_if_success refine aa.same true C ?_);(fail_if_success refine aa.same false C ?_);refine aa.hh C C (fun h=>?_) (fun h=>?_)|refine ae.cond C (fun h=>?_) (fun h=>?_))
      all_goals first
        | (have key:xh w f=false:=by
            clear a1 I ad al bf az iL
            unfold xh kN
            grind
           exact Fin.cB I C (aQ.of_eq (by rw [key];rfl)))
        | (have key:xh w f=true:=by
            clear a1 I ad al bf az iL
            unfold xh kN
            grind
           exact DM.mk () I key (by repeat (first|exact trivial|refine ⟨⟨_,rfl,aJ⟩,?_⟩|refine ⟨⟨_,rfl,aQ.of_eq (by (congr 1;clear a1 I ad al bf az iL;unfold so;grind))⟩,?_⟩)) .nil)
    rintro _ ai I;unfold ak.cells;rw [ai,f5]
    have bk:∀ b,f.c5=b→vg w f=(decide (f.kids.length=so f.op)&&(decide (f.arg≥0)&&(decide (f.arg<3)&&(f.path.all (fun c=>decide (c≥0)&&decide (c<(w.owner.length:Int)))&&(decide (f.path.length≤2) &&
      (b||(decide (f.arg=0)&&(decide (f.path.length=0)&&(decide (f.cls=0)&&decide (f.n=0)))))))))):=fun b an=>(by unfold vg;rw [an])
    cases aC:f.c5 with
    | true=>
      rw [aC] at ad;have bk:=bk _ aC
      repeat' (first|(with_reducible first|apply ae.seq|apply b0|apply fY|apply ae.ret|apply ae.skip|apply ae.block)|refine c4 C ?_|refine ae.cF ?_|refine aa.nil ?_|refine ae.fM C ?_|refine ae.gT C ?_|refine cv C ?_|refine aa.skip C C C ?_|refine aa.ec C C C C C cx ?_|(fail_if_success refine aa.same true C ?_);(fail_if_success refine aa.same false C ?_);refine aa.hh C C (fun h=>?_) (fun h=>?_)|refine ae.cond C (fun h=>?_) (fun h=>?_))
      all_goals first
        | (have key:vg w f=false:=by
            clear a1 I ad al bf az iL
            rw [bk]
            simp only [d9] at *
            grind
           exact Fin.cB I C (aQ.of_eq (by rw [key];rfl)))
        | skip
      · have key:vg w f=true:=by
          clear a1 I ad al bf az iL;rw [bk];simp only [d9] at *;grind
        rw [key,f5];clear key;skip;refine ae.b5 [2,3,92,93] C I (σ:=Nat) (fun j=>[(94,.int .i64 (j:Int))]) (fun _=>[]) (fun j=>j≤f.kids.length∧j' w f.kids=j' w (f.kids.drop j)) (fun j=>f.kids.length-j) 0 ⟨g7 _,rfl⟩ (cl C) aX ?_;rintro j ⟨aL,aq⟩ I
        try simp only at aL aq I ⊢
        refine b7 ?_;refine ae.cond C (fun au=>?_) (fun aV=>?_);rotate_left
        · have aV:j=f.kids.length:=by simp at aV;omega
          rw [eD af,j'] at aq;rw [aq];refine ez ?_;exact bB I
        have au:j<f.kids.length:=by simpa using au
        obtain ⟨x,ab,bL⟩:=b8 (f:=ak.bK) au;rw [drop_cons ab,j'] at aq;have fH:=ak.h8 (d5 ab);have hM:=a1 x af af;rw [ak.b6] at hM bL;unfold fz fE df bd at hM;cases av:gH w x with
        | false=>
          rw [av,f9] at aq;rw [av] at hM;rw [aq];refine et ?_;exact bB I
        | true=>
          rw [av,f5] at aq;rw [av] at hM;refine et ?_;exact bn.mk (j+1) I ⟨au,aq⟩ cj aX oR
    | false=>
      rw [aC] at ad;have bk:=bk _ aC
      repeat' (first|(with_reducible first|apply ae.seq|apply b0|apply fY|apply ae.ret|apply ae.skip|apply ae.block)|refine c4 C ?_|refine ae.cF ?_|refine aa.nil ?_|refine ae.fM C ?_|refine cv C ?_|refine aa.skip C C C ?_|refine aa.ec C C C C C cx ?_|(fail_if_success refine aa.same true C ?_);(fail_if_success refine aa.same false C ?_);refine aa.hh C C (fun h=>?_) (fun h=>?_)|refine ae.cond C (fun h=>?_) (fun h=>?_))
      all_goals first
        | (have key:vg w f=false:=by
            clear a1 I ad al bf az iL
            rw [bk]
            simp only [d9] at *
            grind
           exact Fin.cB I C (aQ.of_eq (by rw [key];rfl)))
        | skip
      · have key:vg w f=true:=by
          clear a1 I ad al bf az iL;rw [bk];simp only [d9] at *;grind
        rw [key,f5];clear key;skip;refine ae.b5 [2,3,92,93] C I (σ:=Nat) (fun j=>[(94,.int .i64 (j:Int))]) (fun _=>[]) (fun j=>j≤f.kids.length∧j' w f.kids=j' w (f.kids.drop j)) (fun j=>f.kids.length-j) 0 ⟨g7 _,rfl⟩ (cl C) aX ?_;rintro j ⟨aL,aq⟩ I
        try simp only at aL aq I ⊢
        refine b7 ?_;refine ae.cond C (fun au=>?_) (fun aV=>?_);rotate_left
        · have aV:j=f.kids.length:=by simp at aV;omega
          rw [eD af,j'] at aq;rw [aq];refine ez ?_;exact bB I
        have au:j<f.kids.length:=by simpa using au
        obtain ⟨x,ab,bL⟩:=b8 (f:=ak.bK) au;rw [drop_cons ab,j'] at aq;have fH:=ak.h8 (d5 ab);have hM:=a1 x af af;rw [ak.b6] at hM bL;unfold fz fE df bd at hM;cases av:gH w x with
        | false=>
          rw [av,f9] at aq;rw [av] at hM;rw [aq];refine et ?_;exact bB I
        | true=>
          rw [av,f5] at aq;rw [av] at hM;refine et ?_;exact bn.mk (j+1) I ⟨au,aq⟩ cj aX oR
theorem Wy (w:bz) (hw:w.ps.length≤60) (f:ak) (a7:f.size<bC):aT d0 35 [fz w,f.bK] (.bool (iJ w f)):=by
 have an:=bD;refine aT.bh ah Tryz.func35 C C fun s I=>?_
 have U:=Wt f a7;have ad:=Wu f.size f (g8 _) a7;have al:=Wx w hw f.size f (g8 _) a7;rw [← UP];rw [ak.b6] at *;unfold fz fE df bd at *
 repeat' (first|(with_reducible first|apply ae.seq|apply b0|apply ae.ret)|refine c4 C ?_|refine ae.cF ?_|refine aa.nil ?_|refine cv C ?_|refine aa.skip C C C ?_|refine aa.ec C C C C C cx ?_|(fail_if_success refine aa.same true C ?_);(fail_if_success refine aa.same false C ?_);refine aa.hh C C (fun h=>?_) (fun h=>?_))
 all_goals (refine Fin.cB I C (aQ.of_eq (ae7 ag.bool ?_));clear I U ad al;grind)
def h1 (n:Nat) (f:Nat→Bool):List ag:=(ag3 n).map fun k => .bool (f k)
theorem n7 (n:Nat) (f:Nat→Bool):(h1 n f).length=n:=by unfold h1;simp
theorem tU {n:Nat} (f:Nat→Bool) {k:Nat} (h:k<n):(h1 n f)[k]? = some (.bool (f k)):=by
 unfold h1;rw [ae4,List.getElem?_range h];rfl
theorem Bt {n p:Nat} {b:Bool} {g g':Nat→Bool} (h:∀ k,g' k=if k=p then b else g k):(h1 n g).set p (.bool b)=h1 n g':=by
 refine List.ext_getElem? fun i=>?_
 rw [List.getElem?_set,n7];by_cases aR:i<n
 ·rw [tU _ aR,tU _ aR,h]
  by_cases e:p=i
  ·subst e;rw [g6 C,g6 aR,g6 C]
  ·rw [f0 e,f0 (fun h=>e h.symm)]
 ·rw [am5 (by rw [n7];omega),am5 (by rw [n7];omega)]
  split
  ·split<;>first|omega|rfl
  ·rfl
theorem HX (n:Nat):t6 n (ag.bool false)=h1 n (fun _=>false):=by
 unfold h1;rw [List.map_const',List.length_range]
theorem Wz (n:Nat) (f:Nat→Bool):(h1 n f).all fe=true:=by
 unfold h1;rw [List.all_map];simp [Function.comp_def,fe]
theorem HY {l:List Int} {j:Nat} {p:Int} (h:l[j]? = some p) (k:Int):(l.take (j+1)).contains k=((l.take j).contains k||k==p):=by
 rw [il h,List.contains_append,List.contains_cons,List.contains_nil,am3]
theorem WA (w:bz) (hw:gz w) (c:Nat) (aB:c<3+w.ps.length):aT d0 186 [fz w,.int .i64 (c:Int)] (.aA 1 (h1 (3+w.ps.length) (w4 w c)) .bb):=by
 have an:=bD;refine aT.bh ah Tryz.func186 C C fun s I=>?_
 have tV:=hw.ja;unfold fz fE df bd;have dm:t7 .i64 (3+((w.ps.map fun l=>ag.aA 1 (l.map a8) .bb).length:Int))=((3+w.ps.length:Nat):Int):=by rw [d9,dz af af];push_cast;rfl
 refine dt ?_;refine aa.rC ah I (3+w.ps.length) C C C C C C C C C C (ae7 (fun z=>some (ag.int .i64 z)) dm) (ae7 (fun z=>some (ag.int .i64 z)) dm) (by show _*1≤_;omega) af (fun b I=>?_);rw [HX] at I ⊢;refine fI ?_;refine aa.ej ah c C C C C C C C C C C aB ?_;refine aa.hQ ah I (h1 (3+w.ps.length) fun k=>decide (k=c)) C C C C C C C C C aW (by rw [n7];show c*1+1≤_;omega) (by rw [mQ,ag'];exact Bt fun k=>by by_cases e:k=c<;>simp [e]) (fun I=>?_);refine bl ?_;refine ae.b5 [2,5] C I (σ:=Nat×(Nat→Bool)) (fun q=>[(6,.int .i64 (q.1:Int))]) (fun q=>[(.own b,.box 4 (h1 (3+w.ps.length) q.2))]) (fun q=>q.1≤c∧w4 w c=hs w.ps (q.1-2) q.2) (fun q=>q.1) (c,fun k=>decide (k=c)) ⟨g8 _,rfl⟩ (cl C) aX ?_;rintro ⟨q,f⟩ ⟨br,aq⟩ I
 try simp only at br aq I ⊢
 refine b7 ?_;refine ae.cond C (fun aV=>?_) (fun au=>?_);rotate_left
 ·have au:q<3:=by simp at au;omega
  rw [show q-2=0 by omega,hs] at aq;refine ae.tG I 5 b (n:=3+w.ps.length) (cap:=3+w.ps.length) C .here (by rw [n7]) af af (by rw [ag9 (by rw [n7];omega)];exact Wz _ _) (fun I=>?_);rw [ag9 (by rw [n7];omega),aq];refine ez ?_;exact bB I
 have aV:3≤q:=by simp at aV;omega
 obtain ⟨m,rfl⟩:∃ m,q=3+m:=⟨q-3,by omega⟩;obtain ⟨l,aC,ql⟩:=b8 (f:=bd) (show m<w.ps.length by omega);have HZ:=fun p aF=>w3 hw aC (p:=p) aF
 have adb:=hw.short l (d5 aC);have jG:t7 .i64 (((3+m:Nat):Int)-3)=(m:Int):=by rw [dz af af];omega
 rw [show 3+m-2=m+1 by omega,hs,d7,aC,af9] at aq;unfold bd at ql;refine dG ?_;refine aa.idx ah m C C C C C C C C C C jG ql C ?_;refine dG ?_
 refine ae.b5 [2,5,6,27,28] C I (σ:=Nat) (fun j=>[(29,.int .i64 (j:Int))]) (fun j=>[(.own b,.box 4 (h1 (3+w.ps.length) fun k=>f k||(f (3+m)&&(l.take j).contains (k:Int))))]) (fun j=>j≤l.length) (fun j=>l.length-j) 0 (g7 _) (cl C) (by
  rw [show (fun k=>f k||(f (3+m)&&(l.take 0).contains (k:Int)))=f from funext fun k=>by rw [al4];simp]
  exact aG.all _) ?_
 rintro j aL I
 try simp only at aL I ⊢
 refine b7 ?_;refine ae.cond C (fun au=>?_) (fun aV=>?_);rotate_left
 ·have aV:j=l.length:=by simp at aV;omega
  rw [aV,ae5] at I ⊢;refine kL ?_;exact bn.mk (2+m,fun k=>f k||(f (3+m)&&l.contains (k:Int))) I ⟨by show 2+m≤c;omega,by show _=hs w.ps (2+m-2) _;rw [show 2+m-2=m by omega];exact aq⟩ (by repeat (first|exact trivial|refine ⟨⟨_,rfl,aJ⟩,?_⟩|refine ⟨⟨_,rfl,aQ.of_eq (by (rw [dz af af];congr 1;simp only;omega))⟩,?_⟩)) aX (by show 2+m<3+m;omega)
 have au:j<l.length:=by simpa using au
 obtain ⟨p,aF,fg⟩:=b8 (f:=a8) au;have WB:=HZ p (d5 aF);unfold a8 at fg;obtain ⟨g,av⟩:∃ g,g=fun k=>f k||(f (3+m)&&(l.take j).contains (k:Int)):=⟨_,rfl⟩
 have WC:g (3+m)=f (3+m):=by rw [av];simp only;cases f (3+m)<;>simp
 have Eh:∀ k,(f k||(f (3+m)&&(l.take (j+1)).contains (k:Int)))=if k=p.toNat then (g p.toNat||f (3+m)) else g k:=fun k=>by
  rw [HY aF,av];simp only;by_cases e:k=p.toNat
  ·subst e
   rw [g6 C,show ((p.toNat:Nat):Int)==p by simp;omega];cases f p.toNat<;>cases f (3+m)<;>simp
  ·rw [f0 e,show ((k:Int)==p)=false by rw [beq_eq_false_iff_ne];omega,am3]
 rw [← av] at I ⊢;refine dG ?_;refine aa.ej ah p.toNat C C C C C C C C C af af ?_;obtain ⟨v,aw⟩:∃ v,v=g p.toNat:=⟨_,rfl⟩;refine aa.jd ah I C C C C C C aW C (v := .bool v) (by rw [aw,ag'];exact tU g af) ?_;cases v with
 | true=>
  refine ed ?_;refine aa.ej ah p.toNat C C C C C C C C C af af ?_;refine aa.hQ ah I (h1 (3+w.ps.length) fun k=>f k||(f (3+m)&&(l.take (j+1)).contains (k:Int))) C C C C C C C C C aW (by rw [n7];show p.toNat*1+1≤_;omega) (by rw [mQ,ag'];exact Bt fun k=>by rw [Eh,← aw,Bool.true_or]) (fun I=>?_);refine fj ?_;exact bn.mk (j+1) I au cj aX n4
 | false=>
  refine dU ?_;refine aa.ej ah (3+m) C C C C C C C C C C af ?_;refine aa.jd ah I C C C C C C aW C (v := .bool (f (3+m))) (by rw [← WC,ag'];exact tU g af) ?_;refine dU ?_;refine aa.ej ah p.toNat C C C C C C C C C af af ?_;refine aa.hQ ah I (h1 (3+w.ps.length) fun k=>f k||(f (3+m)&&(l.take (j+1)).contains (k:Int))) C C C C C C C C C aW (by rw [n7];show p.toNat*1+1≤_;omega) (by rw [mQ,ag'];exact Bt fun k=>by rw [Eh,← aw,Bool.false_or]) (fun I=>?_);refine fj ?_;exact bn.mk (j+1) I au cj aX n4
theorem WD (w:bz) (hw:gz w) (a b:Nat) (a6:a<3+w.ps.length) (kh:b<3+w.ps.length):aT d0 144 [fz w,.int .i64 (a:Int),.int .i64 (b:Int)] (.bool (((eY w.ps).getD a 0).testBit b)):=by
 have an:=bD;refine aT.bh ah Tryz.func144 C C fun s I=>?_
 have tV:=hw.ja;have ss:=WA w hw a a6;unfold fz fE df bd at *;by_cases U:a=b
 ·subst U
  rw [DY hw a6];refine dt ?_;refine aa.dY 11 C ba ?_;refine ed ?_;exact bB I
 have g1:((a:Int)==(b:Int))=false:=by rw [beq_eq_false_iff_ne];omega
 refine dt ?_;refine aa.dh 11 C g1 ?_;refine gr ?_;refine ae.cond C (fun ad=>?_) (fun ad=>?_)
 ·have ad:b=0:=by simpa using ad
  subst ad;rw [UL hw a6];refine gX ?_;exact bB I
 have ad:b≠0:=by simpa using ad
 refine kq ?_;refine ae.cond C (fun al=>?_) (fun al=>?_)
 ·have al:a<3:=by simp at al;omega
  have:((eY w.ps).getD a 0).testBit b=false:=by
   rw [ah4];intro h;have:=DZ al h;omega
  rw [this];refine gX ?_;exact bB I
 have kl:=tU (n:=3+w.ps.length) (w4 w a) kh;refine c2 ?_;rw [← He hw a6 af];exact bB I
theorem WE (w:bz) (hw:gz w) (c bu o:Nat) (aB:c<3+w.ps.length) (ai:w.owner[bu]? = some (o:Int)):aT d0 182 [fz w,.int .i64 (c:Int),.int .i64 (bu:Int)] (.bool (((eY w.ps).getD c 0).testBit o)):=by
 have an:=bD;refine aT.bh ah Tryz.func182 C C fun s I=>?_
 have tV:=hw.ja;have qj:=hw.own _ (d5 ai);have n8:=WD w hw c o aB af;have ad:(w.owner.map a8)[bu]? = some (.int .i64 (o:Int)):=by simp [ai,a8]
 unfold fz fE df bd at *;by_cases al:c<3
 ·have:((eY w.ps).getD c 0).testBit o=false:=by
   rw [ah4];intro h;have:=DZ al h;omega
  rw [this];have bf:decide ((c:Int)≥3)=false:=by simp;omega
  refine b' ?_;refine aK.split 9 C (fun h=>by rw [bf] at h;cases h) (fun _=>?_);refine hi ?_;exact bB I
 have bf:decide ((c:Int)≥3)=true:=by simp;omega
 refine b' ?_;refine aK.split 9 C (fun h=>?_) (fun h=>by rw [bf] at h;cases h);refine c2 ?_;exact bB I
theorem Nk:∀ (l:List fR) (i:Nat) (c:fR),fL i (l++[c])=fL i l++t6 c.bp.length (((i+l.length:Nat):Int)+3)
  | [],i,c=>by simp [fL]
  | x::r,i,c=>by
    rw [aa',fL,Nk r (i+1) c,fL,ah0];congr 3;rw [g9];omega
theorem Nl {l:List fR} {j:Nat} {c:fR} (h:l[j]? = some c):fL 0 (l.take (j+1))=fL 0 (l.take j)++t6 c.bp.length ((j:Int)+3):=by
 rw [il h,Nk];have:=qs h;rw [ae8,am8 af,af5]
theorem Nn (l:List fR) (j:Nat):(fL 0 (l.take j)).length≤(fL 0 l).length:=by
 have key:∀ (l:List fR) (i j:Nat),(fL i (l.take j)).length≤(fL i l).length:=by
  intro l
  induction l with
  | nil=>intro i j;simp [fL]
  | cons c r a1=>
   intro i j;cases j with
   | zero=>simp [fL]
   | succ j=>
    rw [List.take_succ_cons,fL,fL,f6,f6];have:=a1 (i+1) j;omega
 exact key l 0 j
theorem No (p:bT) (aF:ga p) (ai:(fL 0 p.cm).length<bC):aT d0 147 [cW p] (fz (ca p)):=by
 have an:=bD;refine aT.bh ah Tryz.func147 C C fun s I=>?_
 have U:=Ng p aF;have cy:=aF.cls;unfold fz fE ca;simp only;unfold cW cZ at *;unfold df at *
 repeat (first|(refine DE ?_)|refine aa.jC I C C C C C C (fun b I=>?_)|refine aa.eb ah I C C C C C C C (fun cH I=>?_)|(refine T2 I ?_;clear I;intro I))
 rename_i Bu _;obtain ⟨xi,rfl⟩:∃ x,x=cH:=⟨_,rfl⟩;refine ae.wQ I xi [.aA 1 ((hk p).map bd) .bb,.aA 1 [] .nil] .here (.cons aJ (.one (aQ.nil gN))) (fun I=>?_);refine ae.h0 I 3 1 0 fun I=>?_
 refine ae.b5 [2,3,10,11] C I (σ:=Nat×bN) (fun q=>[(12,.int .i64 (q.1:Int))]) (fun q=>[(.own xi,.box 62 [.aA 1 ((hk p).map bd) .bb,.aA 1 ((fL 0 (p.cm.take q.1)).map a8) q.2]),(q.2,.row 3 1 (fL 0 (p.cm.take q.1)).length),(.own Bu,.box 62 [.aA 0 [] .nil,.aA 0 [] .nil])])
  (fun q=>q.1≤p.cm.length) (fun q=>p.cm.length-q.1) (0,.nil) (g7 _) (cl C) aX ?_
 rintro ⟨j,uI⟩ aL I;simp only at aL I ⊢;refine fI ?_;refine ae.cond C (fun au=>?_) (fun aV=>?_);rotate_left
 ·have aV:j=p.cm.length:=by simp at aV;omega
  subst aV;rw [ae5] at I ⊢;refine cC I ?_;intro I;exact Fin.cB I (oH C C (bo.get aW I) C) (aQ.agg (.cons aJ (.one aQ.bb)))
 have au:j<p.cm.length:=by simpa using au
 obtain ⟨c,ay,c8⟩:=b8 (f:=jo) au;have hI:=(aF.each c (d5 ay)).2.1;have aN:=Nl ay;have hle:=Nn p.cm (j+1);have ix:t7 .i64 ((j:Int)+3)=(j:Int)+3:=dz af af;rw [aN,f6,af3] at hle;generalize fL 0 (p.cm.take j)=os at I aN hle ⊢;unfold jo nt bd at c8
 repeat (first|(refine DD I ?_;clear I;intro I)|refine aa.eb ah I rfl rfl rfl rfl rfl rfl rfl (fun cH I=>?_))
 refine ae.b5 [2,3,4,10,11,12,18,19] C I (σ:=Nat×bN) (fun q=>[(20,.int .i64 (q.1:Int))]) (fun q=>[(.own xi,.box 62 [.aA 1 ((hk p).map bd) .bb,.aA 1 ((os++t6 q.1 ((j:Int)+3)).map a8) q.2]),(q.2,.row 3 1 (os++t6 q.1 ((j:Int)+3)).length),(.own Bu,.box 62 [.aA 0 [] .nil,.aA 0 [] .nil])])
  (fun q=>q.1≤c.bp.length) (fun q=>c.bp.length-q.1) (0,uI) (g7 _) (cl C) (by simp only [av7,d6];exact aX) ?_
 rintro ⟨k,bR⟩ aE I;simp only at aE I ⊢;refine b7 ?_;refine ae.cond C (fun cI=>?_) (fun dV=>?_);rotate_left
 ·have dV:k=c.bp.length:=by simp at dV;omega
  subst dV;rw [← aN] at I ⊢;refine kL ?_;exact bn.mk (j+1,bR) I au cj aX yZ
 have cI:k<c.bp.length:=by simpa using cI
 have gW:(os++t6 k ((j:Int)+3)).length=os.length+k:=by simp
 have H0:(os++t6 (k+1) ((j:Int)+3)).map a8=(os++t6 k ((j:Int)+3)).map a8++[.int .i64 (t7 .i64 ((j:Int)+3))]:=by rw [ix,ap1,← ah0,ad'];rfl
 have H2:(os++t6 (k+1) ((j:Int)+3)).length=(os++t6 k ((j:Int)+3)).length+1:=by simp;omega
 refine cC I ?_;intro I;refine aa.fO ah I C C C C C C C di C C C C C C C C aW ba jS af (fun fo I=>?_);refine hD I ?_;intro I;exact bn.mk (k+1,.own fo) I cI (by repeat (first|exact trivial|refine ⟨⟨_,rfl,aJ⟩,?_⟩|refine ⟨⟨_,rfl,aQ.of_eq (by (first|rw [h7 af]))⟩,?_⟩)) (by simp only [H2,H0];exact aX) D'
theorem Np (n:Int):aT d0 183 [.int .i64 n] (.bool (kN n)):=by
 have an:=bD;refine aT.bh ah Tryz.func183 C C fun s I=>?_
 repeat' (first|(with_reducible first|apply ae.seq|apply b0|apply ae.ret)|refine c4 C ?_|refine ae.cF ?_|refine aa.nil ?_|refine cv C ?_|refine aa.skip C C C ?_|(fail_if_success refine aa.same true C ?_);(fail_if_success refine aa.same false C ?_);refine aa.hh C C (fun h=>?_) (fun h=>?_))
 all_goals (refine Fin.cB I C (aQ.of_eq (ae7 ag.bool ?_));clear I;unfold kN;grind)
theorem Nq (p:bT) (aF:ga p):aT d0 88 [cW p] (df (hk p)):=by
 have an:=bD;refine aT.bh ah Tryz.func88 C C fun s I=>?_
 have cy:=aF.cls;obtain ⟨xs,c'⟩:∃ xs:Nat→List ag,∀ j,xs j=((p.cm.take j).map fR.parents).map bd:=⟨_,fun _=>rfl⟩;have bq:xs 0=[]:=by rw [c'];rfl
 have fm:∀ j,(xs j).length≤p.cm.length:=fun j=>by
  rw [c',d9,d9];exact al0 _ _
 unfold df cW cZ hk;refine fP ?_;refine ae.h0 I 23 1 0 fun I=>?_
 refine ae.b5 [1] C I (σ:=Nat×bN) (fun q=>[(4,.int .i64 (q.1:Int)),(3,.aA 1 (xs q.1) q.2)]) (fun q=>[(q.2,.row 23 1 (xs q.1).length)]) (fun q=>q.1≤p.cm.length) (fun q=>p.cm.length-q.1) (0,.nil) (g7 _) ⟨⟨_,rfl,aJ⟩,⟨_,rfl,by rw [bq];exact aQ.nil gN⟩,trivial⟩ xd ?_;rintro ⟨j,own⟩ aL I;simp only at aL I ⊢;refine b7 ?_;refine ae.cond C (fun au=>?_) (fun aV=>?_);rotate_left
 ·have aV:j=p.cm.length:=by simp at aV;omega
  subst aV;have he:xs p.cm.length=(p.cm.map fR.parents).map bd:=by rw [c',ae5]
  rw [he];refine ez ?_;exact Fin.cB I C aQ.bb
 have au:j<p.cm.length:=by simpa using au
 obtain ⟨c,ay,c8⟩:=b8 (f:=jo) au;have ar:=c' (j+1);rw [il ay,ad',ad',← c'] at ar;have ar:xs (j+1)=xs j++[.aA 1 (c.parents.map a8) .bb]:=ar;have cR:(xs (j+1)).length=(xs j).length+1:=by rw [ar];simp
 have l1:=fm j;have ih:=(aF.each c (d5 ay)).1;unfold jo nt bd at *;refine dG ?_;refine aa.nX ah C C C C C C C di C C C (.inl C) (.inr C) C (y1 _) Be yY (.inl C) ?_;rw [d8];refine dU ?_;refine aa.fO ah I C C C C C C C di C C C C C C C C aW gY pE af (fun bR I=>?_);refine fj ?_;refine bn.mk (j+1,.own bR) I au kM u9 yZ
theorem H3 (p:bT) (aF:ga p) (ai:(fL 0 p.cm).length<bC):aT d0 36 [cW p] (fz (ca p)):=by
 have an:=bD;refine aT.bh ah Tryz.func36 C C fun s I=>?_
 have U:=Nq p aF;have cy:=aF.cls;unfold fz fE ca;simp only;unfold cW cZ at *;unfold df at *
 repeat (first|(refine T3 I ?_;clear I;intro I)|refine aa.eb ah I rfl rfl rfl rfl rfl rfl rfl (fun cH I=>?_)|(refine qo ?_))
 rename_i Bu _;obtain ⟨xi,rfl⟩:∃ x,x=cH:=⟨_,rfl⟩;refine ae.wQ I xi [.aA 1 ((hk p).map bd) .bb,.aA 1 [] .nil] .here (.cons aJ (.one (aQ.nil gN))) (fun I=>?_);refine ae.h0 I 3 1 0 fun I=>?_
 refine ae.b5 [1,2,3] C I (σ:=Nat×bN) (fun q=>[(4,.int .i64 (q.1:Int))]) (fun q=>[(.own xi,.box 62 [.aA 1 ((hk p).map bd) .bb,.aA 1 ((fL 0 (p.cm.take q.1)).map a8) q.2]),(q.2,.row 3 1 (fL 0 (p.cm.take q.1)).length),(.own Bu,.box 62 [.aA 0 [] .nil,.aA 0 [] .nil])])
  (fun q=>q.1≤p.cm.length) (fun q=>p.cm.length-q.1) (0,.nil) (g7 _) (cl C) aX ?_
 rintro ⟨j,uI⟩ aL I;simp only at aL I ⊢;refine b7 ?_;refine ae.cond C (fun au=>?_) (fun aV=>?_);rotate_left
 ·have aV:j=p.cm.length:=by simp at aV;omega
  subst aV;rw [ae5] at I ⊢;refine cC I ?_;intro I;exact Fin.cB I (oH C C (bo.get aW I) C) (aQ.agg (.cons aJ (.one aQ.bb)))
 have au:j<p.cm.length:=by simpa using au
 obtain ⟨c,ay,c8⟩:=b8 (f:=jo) au;have hI:=(aF.each c (d5 ay)).2.1;have aN:=Nl ay;have hle:=Nn p.cm (j+1);have ix:t7 .i64 ((j:Int)+3)=(j:Int)+3:=dz af af;rw [aN,f6,af3] at hle;generalize fL 0 (p.cm.take j)=os at I aN hle ⊢;unfold jo nt bd at c8;refine kq ?_;refine ae.b5 [1,2,3,4] C I (σ:=Nat×bN) (fun q=>[(5,.int .i64 (q.1:Int))]) (fun q=>[(.own xi,.box 62 [.aA 1 ((hk p).map bd) .bb,.aA 1 ((os++t6 q.1 ((j:Int)+3)).map a8) q.2]),(q.2,.row 3 1 (os++t6 q.1 ((j:Int)+3)).length),(.own Bu,.box 62 [.aA 0 [] .nil,.aA 0 [] .nil])])
  (fun q=>q.1≤c.bp.length) (fun q=>c.bp.length-q.1) (0,uI) (g7 _) (cl C) (by simp only [av7,d6];exact aX) ?_
 rintro ⟨k,bR⟩ aE I;simp only at aE I ⊢;refine dG ?_;refine ae.cond C (fun cI=>?_) (fun dV=>?_);rotate_left
 ·have dV:k=c.bp.length:=by simp at dV;omega
  subst dV;rw [← aN] at I ⊢;refine kL ?_;exact bn.mk (j+1,bR) I au cj aX yZ
 have cI:k<c.bp.length:=by simpa using cI
 have gW:(os++t6 k ((j:Int)+3)).length=os.length+k:=by simp
 have H0:(os++t6 (k+1) ((j:Int)+3)).map a8=(os++t6 k ((j:Int)+3)).map a8++[.int .i64 (t7 .i64 ((j:Int)+3))]:=by rw [ix,ap1,← ah0,ad'];rfl
 have H2:(os++t6 (k+1) ((j:Int)+3)).length=(os++t6 k ((j:Int)+3)).length+1:=by simp;omega
 refine cC I ?_;intro I;refine aa.fO ah I C C C C C C C di C C C C C C C C aW ba jS af (fun fo I=>?_);refine hD I ?_;intro I;exact bn.mk (k+1,.own fo) I cI (by repeat (first|exact trivial|refine ⟨⟨_,rfl,aJ⟩,?_⟩|refine ⟨⟨_,rfl,aQ.of_eq (by (first|rw [h7 af]))⟩,?_⟩)) (by simp only [H2,H0];exact aX) D'
def tW (p:bT) (x:i'):Int:=
 if x.op=5 then (if 0≤x.n∧x.n<(p.ef.length:Int) then p.ef.getD x.n.toNat 0 else -1) else (su p x).getD (-1)
theorem WG (p:bT) (next:Bool) (x:i') (size:Int):yS p next x size=(decide ((x.kids.length:Int)=tW p x)&&(np p x size&&(decide (x.op≠18)||next))):=by
 unfold yS;cases az:np p x size with
 | false=>simp
 | true=>
  have aE:(su p x==some (x.kids.length:Int))=decide ((x.kids.length:Int)=tW p x):=by
   rw [af7,al6,i8];unfold tW;split
   ·rename_i bE
    have aD:0≤x.n∧x.n<(p.ef.length:Int):=by
     unfold np at az;rw [f0 af,f0 af,f0 af,f0 af,g6 bE] at az;simpa using az
    rw [g6 aD];unfold su;rw [g6 bE,Option.some.injEq];exact eq_comm
   ·cases aE:su p x with
    | none=>simp
    | some k=>simp;exact eq_comm
  rw [aE,f5];cases next<;>cases decide ((x.kids.length:Int)=tW p x)<;>simp
theorem Nr {Q:List Int→Prop} {g:Int→Int→List Int→Option (List Int)} (isLet:Bool) (size:Int) (bq:0≤size) (av:∀ k s out o,0≤s→Q out→g k s out=some o→Q o) :
    ∀ (ks:List Int) (i:Nat) (out o:List Int),Q out→lK g isLet size i ks out=some o→Q o
  | [],i,out,o,br,h=>by rw [lK] at h;cases h;exact br
  | k::r,i,out,o,br,h=>by
    rw [lK] at h;cases aE:g k (if isLet&&i==1 then size+1 else size) out with
    | none=>rw [aE] at h;cases h
    | some qE=>
      rw [aE] at h;exact Nr isLet size bq av r (i+1) qE o (av k _ out qE va br aE) h
theorem H4 {p:bT} {next:Bool} {Q:List Int→Prop} (Ns:∀ (n:Nat) (size:Int) out,0≤size→Q out→Q (out.set n size)):∀ (f:Nat) (n size:Int) (out o:List Int),0≤size→Q out→visitM p next f n size out=some o→Q o
  | 0,_,_,_,_,_,_,h=>by rw [visitM] at h;cases h
  | f+1,n,size,out,o,bq,br,h=>by
    rw [visitM] at h;split at h
    · split at h
      · exact Nr _ size bq (fun k s out o ar br h=>H4 Ns f k s out o ar br h) _ 0 _ o (Ns _ _ _ bq br) h
      · cases h
    · cases h
theorem rH {p:bT} {next:Bool} {f:Nat} {n size:Int} {out o:List Int} (bq:0≤size) (h:visitM p next f n size out=some o):o.length=out.length:=
 H4 (Q:=fun l=>l.length=out.length) (fun n s l _ aC=>by rw [List.length_set];exact aC) f n size out o bq C h
theorem Nt {p:bT} {next:Bool} {f:Nat} {n size:Int} {out o:List Int} (bq:0≤size) (br:∀ x∈out,-1≤x) (h:visitM p next f n size out=some o):∀ x∈o,-1≤x:=
 H4 (Q:=fun l=>∀ x∈l,(-1:Int)≤x) (fun n s l ar aC x ab=>by
  rcases List.mem_or_eq_of_mem_set ab with h|h
  ·exact aC x h
  ·omega) f n size out o bq br h
theorem WH (k:Int):aT d0 139 [.int .i64 k] (.bool (tQ k)):=by
 have an:=bD;refine aT.bh ah Tryz.func139 C C fun s I=>?_
 repeat' (first|(with_reducible first|apply ae.seq|apply b0|apply ae.ret)|refine c4 C ?_|refine ae.cF ?_|refine aa.nil ?_|refine cv C ?_|refine aa.skip C C C ?_|(fail_if_success refine aa.same true C ?_);(fail_if_success refine aa.same false C ?_);refine aa.hh C C (fun h=>?_) (fun h=>?_))
 all_goals (refine Fin.cB I C (aQ.of_eq (ae7 ag.bool ?_));clear I;unfold tQ;grind)
theorem WI (p:bT) (aF:ga p) (x:i') (size:Int):aT d0 185 [cW p,jq x,.int .i64 size] (.bool (np p x size)):=by
 have an:=bD;refine aT.bh ah Tryz.func185 C C fun s I=>?_
 have cy:=aF.cls;have U:=Np x.n;have dm:t7 .i64 (3+((p.cm.map jo).length:Int))=3+(p.cm.length:Int):=by rw [d9,dz af af]
 unfold cW cZ jq la bd at *
 repeat' (first|(with_reducible first|apply ae.seq|apply b0|apply fY|apply fh|apply hC|apply ae.ret|apply ae.skip|apply ae.block)|refine c4 C ?_|refine ae.cF ?_|refine aa.nil ?_|refine cv C ?_|refine aa.skip C C C ?_|refine aa.ec C C C C C cx ?_|(fail_if_success refine aa.same true C ?_);(fail_if_success refine aa.same false C ?_);refine aa.hh C C (fun h=>?_) (fun h=>?_)|refine ae.cond C (fun h=>?_) (fun h=>?_))
 all_goals (refine Fin.cB I C (aQ.of_eq (ae7 ag.bool ?_));clear I U cy;unfold np;simp only [d9] at *;first|grind|(rw [f0 (by grind),f0 (by grind),f0 (by grind),f0 (by grind),f0 (by grind)];grind))
theorem WJ (o:Int):(o=1∨o=2∨o=3∨o=6∨o=18∨o=4∨o=8∨o=17∨o=7∨o=9∨o=11∨o=12∨o=13∨o=14∨o=15∨o=16∨o=10)∨o=5∨(∀ k:Int,(k=1∨k=2∨k=3∨k=6∨k=18∨k=4∨k=8∨k=17∨k=7∨k=9∨k=11∨k=12∨k=13∨k=14∨k=15∨k=16∨k=10∨k=5)→(o==k)=false):=by
 by_cases h:o=5
 ·exact .inr (.inl h)
 ·by_cases ad:(o=1∨o=2∨o=3∨o=6∨o=18∨o=4∨o=8∨o=17∨o=7∨o=9∨o=11∨o=12∨o=13∨o=14∨o=15∨o=16∨o=10)
  ·exact .inl ad
  ·refine .inr (.inr fun k aE=>?_)
   rw [beq_eq_false_iff_ne];omega
theorem WK (p:bT) (x:i'):aT d0 184 [cW p,jq x] (.int .i64 (tW p x)):=by
 have an:=bD;refine aT.bh ah Tryz.func184 C C fun s I=>?_
 obtain ⟨op,n,kids⟩:=x;unfold jq la cW cZ;simp only;rcases WJ op with h|rfl|h
 ·rcases h with rfl|rfl|rfl|rfl|rfl|rfl|rfl|rfl|rfl|rfl|rfl|rfl|rfl|rfl|rfl|rfl|rfl
  all_goals
   (repeat (first|(with_reducible first|apply ae.seq|apply b0|apply fY|apply fh|apply hC|apply ae.ret|apply ae.skip|apply ae.block)|refine c4 C ?_|refine ae.fM C ?_|refine ae.gT C ?_ ));exact Fin.cB I C (aQ.of_eq C)
 ·unfold tW
  simp only [ag7];unfold bd;by_cases bq:0≤n;rotate_left
  ·rw [f0 (fun h=>bq h.1)]
   (repeat (first|(with_reducible first|apply ae.seq|apply b0|apply fY|apply fh|apply hC|apply ae.ret|apply ae.skip|apply ae.block)|refine c4 C ?_|refine ae.fM C ?_|refine ae.gT C ?_ ));refine jE ?_;refine aa.dh 33 C cV ?_;refine bl ?_;exact bB I
  by_cases U:n<(p.ef.length:Int);rotate_left
  ·rw [f0 (fun h=>U h.2)]
   (repeat (first|(with_reducible first|apply ae.seq|apply b0|apply fY|apply fh|apply hC|apply ae.ret|apply ae.skip|apply ae.block)|refine c4 C ?_|refine ae.fM C ?_|refine ae.gT C ?_ ));refine jE ?_;refine aa.dY 33 C cV ?_;refine gr ?_;refine ae.cond C (fun h=>by simp at h;omega) (fun _=>?_);refine bl ?_;exact bB I
  rw [g6 ⟨bq,U⟩];obtain ⟨q,rfl⟩:∃ q:Nat,n=q:=⟨n.toNat,by omega⟩;obtain ⟨y,ay,c8⟩:=b8 (f:=a8) (l:=p.ef) (j:=q) af;rw [ae1,d7,ay,af9];unfold a8 at c8
  (repeat (first|(with_reducible first|apply ae.seq|apply b0|apply fY|apply fh|apply hC|apply ae.ret|apply ae.skip|apply ae.block)|refine c4 C ?_|refine ae.fM C ?_|refine ae.gT C ?_ ));skip;refine ae.cond C (fun _=>?_) (fun h=>by simp at h;omega);refine bl ?_;exact bB I
 ·have aE:tW p ⟨op,n,kids⟩ = -1:=by
   have bE:op≠5:=by have:=h 5 ba;rwa [beq_eq_false_iff_ne] at this
   unfold tW su;simp only;have ne:=fun k aE=>beq_eq_false_iff_ne.1 (h k aE)
   rw [f0 bE,f0 bE];rw [f0 (by have:=ne 1 ba;have:=ne 2 ba;have:=ne 3 ba;have:=ne 6 ba;have:=ne 18 ba;omega)];rw [f0 (by have:=ne 4 ba;have:=ne 8 ba;have:=ne 17 ba;omega)];rw [f0 (by have:=ne 7 ba;have:=ne 9 ba;have:=ne 11 ba;have:=ne 12 ba;have:=ne 13 ba;have:=ne 14 ba;have:=ne 15 ba;have:=ne 16 ba;omega)];rw [f0 (by have:=ne 10 ba;omega)];rfl
  rw [aE]
  (repeat (first|(with_reducible first|apply ae.seq|apply b0|apply fY|apply fh|apply hC|apply ae.ret|apply ae.skip|apply ae.block)|refine c4 C ?_|refine ae.fM C ?_|refine ae.gT C ?_|refine ae.cond C (fun cY=>absurd (cY.symm.trans (h _ ba)) ba) (fun _=>?_)));exact bB I
structure xj (w:bz) (bm:List eV):Prop where
 ja:bm.length≤40
 each:∀ o∈bm,(3≤o.cls∧o.cls<3+(w.ps.length:Int))∧o.bp.length=(oM w (pK w o.cls)).length∧∀ v∈o.bp,hO bm.length v=true
theorem xj.of {w:bz} {bm:List eV} (h:AX w bm=true):xj w bm:=by
 unfold AX at h;rw [f8,i8,ah2] at h;refine ⟨h.1,fun o ai=>?_⟩;have:=h.2 o ai;unfold AW yP at this;simp only [f8,i8,ah2] at this;exact ⟨⟨by omega,by omega⟩,this.2.1,this.2.2⟩
theorem H5 {n:Int} {v:Int×Int} (h:hO n v=true) (al:v.1=3):0≤v.2∧v.2<n:=by
 unfold hO at h;rw [al] at h;simp at h;omega
theorem Nu {n:Int} {v:Int×Int} (h:hO n v=true):v.1=1∨v.1=2∨v.1=3:=by
 unfold hO at h;grind
theorem Nv (w:bz) (m s:Nat) (ar:s<w.owner.length) (an:m.testBit (w.owner.getD s 0).toNat=true):∃ k,(oM w m).findIdx? (· == (s:Int))=some k∧k<(oM w m).length:=by
 have fH:(s:Int)∈oM w m:=af'.2 ⟨s,List.mem_filter.2 ⟨List.mem_range.2 ar,an⟩,rfl⟩;cases h:(oM w m).findIdx? (· == (s:Int)) with
 | none=>
  rw [List.findIdx?_eq_none_iff] at h;have:=h _ fH;simp at this
 | some k=>
  rw [List.findIdx?_eq_some_iff_getElem] at h;exact ⟨k,rfl,h.1⟩
def atR (r:Option (Int×Int)):ag := .cw [gk (r.getD (0,0)),.bool r.isSome]
theorem WL (w:bz) (hw:gz w) (bm:List eV) (ai:xj w bm) (v:Int×Int) (aw:hO bm.length v=true) (path:List Int) (aF:∀ s∈path,0≤s∧s<(w.owner.length:Int)) (ih:path.length<bC) :
  aT d0 172 [gu w,hx bm,gk v,bd path] (atR (ru w bm v path)):=by
 have an:=bD;have rG:=hw.ja;have kF:=tN w.ps;refine aT.bh ah Tryz.func172 C C fun s I=>?_
 have cR:=fun c aB=>Nc w hw c aB
 have n9:=fun c s m o aB hm ht ar ai=>M4 w (Bs w) c s m o aB hm ht ar ai
 unfold gk bd;unfold gu fc at *
 repeat (first|(refine DE ?_)|refine aa.jC I C C C C C C (fun b I=>?_)|refine aa.eb ah I C C C C C C C (fun cH I=>?_)|(refine DF ?_))
 refine ae.b5 [0,1,8,12,13] C I (σ:=Nat×(Int×Int)) (fun j=>[(14,.int .i64 (j.1:Int)),(6,.ptr b 0)]) (fun j=>[(.own b,.box 122 [.int .i64 j.2.1,.int .i64 j.2.2]),(.own cH,.box 122 [.int .i64 0,.int .i64 0])]) (fun j=>j.1≤path.length∧ru w bm v path=ru w bm j.2 (path.drop j.1)∧hO bm.length j.2=true) (fun j=>path.length-j.1) (0,v) ⟨g7 _,rfl,aw⟩ (cl C) aX ?_;rintro ⟨j,u⟩ ⟨aL,aq,hu⟩ I;simp only at aL aq hu I ⊢;refine b7 ?_;refine ae.cond C (fun au=>?_) (fun aV=>?_);rotate_left
 ·have aV:path.length≤j:=by simpa using aV
  rw [eD aV,ru] at aq;rw [aq];refine cC I ?_;intro I;exact Fin.cB I (wY C C (bo.get aW I) C C) aJ
 have au:j<path.length:=by simpa using au
 obtain ⟨x,ay,c8⟩:=b8 (f:=a8) au;obtain ⟨g1,g2⟩:=aF x (d5 ay);obtain ⟨bu,rfl⟩:∃ bu:Nat,x=bu:=⟨x.toNat,by omega⟩;rw [drop_cons ay,ru] at aq;unfold a8 at c8;obtain ⟨p9,r8⟩:=u
 try simp only at aq
 refine cC I ?_;intro I;by_cases al:p9=3;rotate_left
 ·rw [g6 al] at aq
  refine aa.dY 21 C (by simpa using al) ?_;refine cC I ?_;intro I;rw [aq];exact Fin.cB I (wY C C (bo.get aW I) C C) aJ
 obtain ⟨cE,dq⟩:=H5 hu al;subst al;rw [f0 ba] at aq;simp only at cE dq;obtain ⟨q,rfl⟩:∃ q:Nat,r8=q:=⟨r8.toNat,by omega⟩;obtain ⟨o,br,vV⟩:=b8 (f:=jc) (l:=bm) (j:=q) af;have Ax:bm.getD ((q:Int)).toNat default=o:=by rw [ae1,d7,br];rfl
 obtain ⟨⟨nv,hE⟩,xk,xl⟩:=ai.each o (d5 br);rw [Ax] at aq;obtain ⟨cls,bp⟩:=o;simp only at nv hE xk xl aq;obtain ⟨c,rfl⟩:∃ c:Nat,cls=c:=⟨cls.toNat,by omega⟩;obtain ⟨m,hm⟩:∃ m,(eY w.ps)[c]? = some m:=⟨_,f7 af⟩;have mg:pK w (c:Int)=m:=by unfold pK;rw [ae1,d7,hm];rfl
 have ht:=yN rG m (d5 hm);obtain ⟨lO,qj⟩:∃ lO,w.owner[bu]? = some lO:=⟨_,f7 af⟩;obtain ⟨qE,bR⟩:=hw.own lO (d5 qj);obtain ⟨o,rfl⟩:∃ o:Nat,lO=o:=⟨lO.toNat,by omega⟩;have U:=n9 c bu m o af (yO hm) ht qj af;have kG:(w.owner.getD ((bu:Int)).toNat 0).toNat=o:=by rw [ae1,d7,qj];simp
 have WM:(w.owner.getD bu 0).toNat=o:=by rw [d7,qj];simp
 rw [mg,kG] at aq;rw [mg] at xk;unfold jc at vV;refine aa.dh 21 C ba ?_;cases nw:m.testBit o with
 | false=>
  rw [nw,f0 ba] at aq;rw [nw] at U;refine cC I ?_;intro I;rw [aq];exact Fin.cB I (wY C C (bo.get aW I) C C) aJ
 | true=>
  rw [nw,g6 C] at aq;rw [nw] at U;have ad:=cR c af;have WN:(eY w.ps).getD c 0=m:=by rw [d7,hm];rfl
  rw [WN] at ad;obtain ⟨k,mx,iF⟩:=Nv w m bu af (by rw [WM];exact nw);have hlen:(oM w m).length<bC:=by
   have:(oM w m).length≤w.owner.length:=by
    unfold oM;rw [d9];exact am' (aj2 _ _) ba
   have:=hw.bp;omega
  have bf:=L' (oM w m) bu hlen;rw [mx] at bf;simp only at bf;obtain ⟨y,yr,WO⟩:=b8 (f:=gk) (l:=bp) (j:=k) af;have xm:bp.getD k (0,0)=y:=by rw [d7,yr];rfl
  rw [mx,af9,xm] at aq;unfold gk at WO;unfold bd at ad bf;refine hD I ?_;intro I;exact bn.mk (j+1,y) I ⟨au,aq,xl y (d5 yr)⟩ cj aX (by show path.length-(j+1)<path.length-j;omega)
theorem Nw {α:Type}:∀ {l:List α},l.length=2→∃ a b,l=[a,b]
 | [a,b],_=>⟨a,b,rfl⟩
structure y6 (w:bz) (f:ak):Prop where
 arg:0≤f.arg∧f.arg<3
 path:f.path.length≤2
 bp:∀ s∈f.path,0≤s∧s<(w.owner.length:Int)
 cls:f.op=2→0≤f.cls∧f.cls<3+(w.ps.length:Int)
theorem y6.of {w:bz} {f:ak} (h:ik w f=true) (aC:f.c5=true):y6 w f:=by
 simp only [ik,aC,ag7,f8,i8,ah2] at h;obtain ⟨U,ad,al,bf,bE,hf,ig,qC⟩:=h;refine ⟨⟨by omega,bE⟩,hf,fun s ar=>by have:=ig s ar;simpa using this,fun ad=>?_⟩;rw [g6 ad] at qC;simp only [f8,i8] at qC;omega
theorem Bv {w:bz} {f:ak} (h:ik w f=true):(f.op=1∧f.kids=[])∨(f.c5=true∧f.kids=[]∧(f.op=2∨f.op=3∨f.op=4))∨(f.op=5∧∃ x,f.kids=[x])∨((f.op=6∨f.op=7)∧∃ x y,f.kids=[x,y]):=by
 have bq:=h;simp only [ik,f8,i8] at h;obtain ⟨U,ad,al,bf⟩:=h;have aB:f.op=1∨(f.op=2∨f.op=3∨f.op=4)∨f.op=5∨f.op=6∨f.op=7:=by omega
 rcases aB with h|h|h|h|h
 ·left
  refine ⟨h,ai8 ?_⟩;rw [al,h];rfl
 ·right;left
  refine ⟨?_,ai8 ?_,h⟩
  ·unfold ak.c5;simp;omega
  ·rw [al];rcases h with h|h|h<;>rw [h]<;>rfl
 ·right;right;left
  refine ⟨h,List.length_eq_one_iff.1 ?_⟩;rw [al,h];rfl
 ·right;right;right
  refine ⟨.inl h,?_⟩;obtain ⟨a,b,iz⟩:=Nw (show f.kids.length=2 by rw [al,h];rfl);exact ⟨a,b,iz⟩
 ·right;right;right
  refine ⟨.inr h,?_⟩;obtain ⟨a,b,iz⟩:=Nw (show f.kids.length=2 by rw [al,h];rfl);exact ⟨a,b,iz⟩
theorem Nx {w:bz} {bm:List eV} (ai:xj w bm):∀ (path:List Int) (v u:Int×Int),(∀ s∈path,0≤s∧s<(w.owner.length:Int))→hO bm.length v=true→ru w bm v path=some u→hO bm.length u=true
  | [],v,u,_,aw,h=>by rw [ru] at h;cases h;exact aw
  | s::r,v,u,aF,aw,h=>by
    rw [ru] at h
    try simp only at h
    split at h
    · cases h
    · rename_i al
      have al:v.1=3:=by omega
      obtain ⟨cE,dq⟩:=H5 aw al;split at h
      · rename_i an
        have ar:=aF s i6;obtain ⟨bu,rfl⟩:∃ bu:Nat,s=bu:=⟨s.toNat,by omega⟩;have WQ:bm[v.2.toNat]? = some (bm.getD v.2.toNat default):=by
          rw [d7,f7 af];rfl
        have lY:=ai.each _ (d5 WQ);rw [ae1] at an;obtain ⟨k,mx,iF⟩:=Nv w _ bu af an;rw [mx,af9] at h;refine Nx ai r _ u (fun s ar=>aF s (i0 _ ar)) ?_ h;rw [d7,f7 (by rw [lY.2.1];exact iF),af9];exact lY.2.2 _ (List.getElem_mem _)
      · cases h
theorem WR (w:bz) (hw:gz w) (bm:List eV) (ai:xj w bm) (args:List (Int×Int)) (a6:∀ v∈args,hO bm.length v=true) (kt:args.length≤3):∀ (n:Nat) (f:ak),f.size≤n→n<bC→gH w f=true→lI f≤args.length →
    aT d0 125 [gu w,f.bK,hx bm,lh args] (.bool (tO w bm args f)):=by
  have an:=bD;intro n
  induction n with
  | zero=>intro x h;have:=x.size_eq;omega
  | succ n a1=>
    intro f az jn av dn;have rG:=hw.ja;have fZ:=ai.ja;have kF:=tN w.ps;have iL:=f.size_eq;have Bw:=UI w bm args f;rw [DU] at dn;rw [oL,f8] at av;obtain ⟨n6,kU⟩:=av;refine aT.bh ah Tryz.func125 C C fun s I=>?_
    rw [ak.b6];rcases Bv n6 with ⟨U,ad⟩|⟨aC,ad,U⟩|⟨U,x,ad⟩|⟨U,x,y,ad⟩
    · rw [Bw,U]
      unfold ak.cells;rw [U];refine bl ?_;exact bB I
    · have iT:=y6.of n6 aC
      have ih:=iT.path;have cX:=fun v aw=>WL w hw bm ai v aw f.path iT.bp af
      rw [aC,ad] at dn;simp only [ag7,jb] at dn;obtain ⟨q,br⟩:∃ q:Nat,f.arg=q:=⟨f.arg.toNat,by have:=iT.arg;omega⟩;obtain ⟨v,aw,m4⟩:=b8 (f:=gk) (l:=args) (j:=q) af;have y7:=a6 v (d5 aw);have Ny:args.getD f.arg.toNat (0,0)=v:=by rw [br,ae1,d7,aw];rfl
      have cX:=cX v y7;have Nz:tO w bm args f=w2 w bm args f:=by
        rw [Bw,f0 af,f0 af,f0 af,f0 af]
      rw [Nz];have cu:(f.op==1)=false:=by simp;omega
      have cL:(f.op==5)=false:=by simp;omega
      have dT:(f.op==6)=false:=by simp;omega
      have qe:(f.op==7)=false:=by simp;omega
      have n9:=fun m o hm aB=>y2 m o hm aB
      unfold ak.cells;rw [br];unfold gk at m4;unfold gk bd at cX;unfold a8 at cX;unfold gu fc at *;cases hu:ru w bm v f.path with
      | none=>
        have hle:w2 w bm args f=false:=by unfold w2;rw [Ny,hu]
        rw [hu] at cX;rw [hle];unfold atR gk at cX;simp only [af9,aA4,aB3,at7] at cX;refine fP ?_;refine ae.cond C (fun h=>by rw [cu] at h;cases h) (fun _=>?_);refine b7 ?_;refine ae.cond C (fun h=>by rw [cL] at h;cases h) (fun _=>?_);refine b7 ?_;refine ae.cond C (fun h=>by rw [dT] at h;cases h) (fun _=>?_);refine b7 ?_;refine ae.cond C (fun h=>by rw [qe] at h;cases h) (fun _=>?_)
        repeat (first|(refine T4 ?_)|refine aK.HH ah I C C C C C C C C (fun cH I=>?_)|(refine Ly I ?_;clear I;intro I))
        exact bB I
      | some u=>
        have mI:=Nx ai f.path v u iT.bp y7 hu;obtain ⟨p9,r8⟩:=u
        have hle:w2 w bm args f=(if f.op=2 then (if p9=3 then (pK w (bm.getD r8.toNat default).cls).testBit f.cls.toNat else (pK w p9).testBit f.cls.toNat)
    else decide (p9=1)&&((decide (r8=f.n)==decide (f.op=4))&&decide (r8≤f.n))):=by unfold w2;rw [Ny,hu]
        rw [hu] at cX;rw [hle];unfold atR gk at cX;simp only [af9,aA4,aB3,at7] at cX;refine fP ?_;refine ae.cond C (fun h=>by rw [cu] at h;cases h) (fun _=>?_);refine b7 ?_;refine ae.cond C (fun h=>by rw [cL] at h;cases h) (fun _=>?_);refine b7 ?_;refine ae.cond C (fun h=>by rw [dT] at h;cases h) (fun _=>?_);refine b7 ?_;refine ae.cond C (fun h=>by rw [qe] at h;cases h) (fun _=>?_)
        repeat (first|(refine T5 ?_)|refine aK.HH ah I C C C C C C C C (fun cH I=>?_)|(refine Ly I ?_;clear I;intro I))
        refine ae.cond C (fun h=>?_) (fun h=>?_)
        · have bE:f.op≠2:=by simpa using h
          rw [f0 bE]
          repeat' (first|(with_reducible first|apply ae.seq|apply b0|apply fY|apply hC|apply ae.ret)|refine ae.cF ?_|refine aa.nil ?_|refine cv C ?_|refine aa.skip C C C ?_|refine aa.ey ah I C C C C C C nj b1 ?_|(fail_if_success refine aa.same true C ?_);(fail_if_success refine aa.same false C ?_);refine aa.hh C C (fun h=>?_) (fun h=>?_))
          all_goals (refine Fin.cB I C (aQ.of_eq (ae7 ag.bool ?_));clear I cX a1 n9 hle Nz Bw hu mI;grind)
        have bE:f.op=2:=by simpa using h
        rw [g6 bE];obtain ⟨cE,dq⟩:=iT.cls bE;obtain ⟨eu,cy⟩:∃ eu:Nat,f.cls=eu:=⟨f.cls.toNat,by omega⟩;rw [cy,ae1];by_cases al:p9=3
        · subst al
          obtain ⟨nv,hE⟩:=H5 mI rfl;simp only at nv hE;obtain ⟨p,rfl⟩:∃ p:Nat,r8=p:=⟨r8.toNat,by omega⟩;obtain ⟨o,aF,fg⟩:=b8 (f:=jc) (l:=bm) (j:=p) af;obtain ⟨⟨qE,bR⟩,-,-⟩:=ai.each o (d5 aF);have Ax:bm.getD ((p:Int)).toNat default=o:=by rw [ae1,d7,aF];rfl
          obtain ⟨c,xn⟩:∃ c:Nat,o.cls=c:=⟨o.cls.toNat,by omega⟩;obtain ⟨m,hm⟩:∃ m,(eY w.ps)[c]? = some m:=⟨_,f7 af⟩;have mg:pK w (c:Int)=m:=by unfold pK;rw [ae1,d7,hm];rfl
          have ht:=yN rG m (d5 hm);have wj:=n9 m eu ht af;rw [g6 C,Ax,xn,mg];unfold jc at fg;rw [xn] at fg;have kl:=Bq (w:=w) (yO hm);refine tB I ?_;intro I;refine aK.l9 ah c C C C C C C C C C C af ?_;refine aK.Ba ah C C C C C C C (by simpa using kl) ?_;refine c2 ?_;exact bB I
        · obtain ⟨c,xn⟩:∃ c:Nat,p9=c:=⟨p9.toNat,by have:=Nu mI;simp only at this;omega⟩
          subst xn;have ade:c<3:=by have:=Nu mI;simp only at this;omega
          obtain ⟨m,hm⟩:∃ m,(eY w.ps)[c]? = some m:=⟨_,f7 af⟩;have mg:pK w (c:Int)=m:=by unfold pK;rw [ae1,d7,hm];rfl
          have ht:=yN rG m (d5 hm);have wj:=n9 m eu ht af;have kl:=Bq (w:=w) (yO hm);rw [f0 al,mg];have oa:((c:Int)==3)=false:=by simpa using al
          refine cC I ?_;intro I;refine ae.cond C (fun h=>by rw [oa] at h;cases h) (fun _=>?_);refine tB I ?_;intro I;refine aK.l9 ah c C C C C C C C C C C af ?_;refine aK.Ba ah C C C C C C C (by simpa using kl) ?_;refine c2 ?_;exact bB I
    · have ab:=ak.h8 (l:=f.kids) (x:=x) ld
      have gE:=(DV f.kids (if f.c5 then f.arg+1 else 0)).2 x ld;have i1:=a1 x af af (kr kU ld) af;rw [Bw,U,ad,DW _ _ _ 0 [x] x C];have b2:([x].map ak.bK)[0]? = some (.agg x.cells):=by rw [← ak.b6];rfl
      rw [ak.b6] at i1;unfold ak.cells;rw [U,ad];unfold gu fc at *;refine b' ?_;exact bB I
    · have ab:=ak.h8 (l:=f.kids) (x:=x) ld
      have gE:=(DV f.kids (if f.c5 then f.arg+1 else 0)).2 x ld;have i1:=a1 x af af (kr kU ld) af;have ay:=ak.h8 (l:=f.kids) (x:=y) sy;have de:=(DV f.kids (if f.c5 then f.arg+1 else 0)).2 y sy;have i2:=a1 y af af (kr kU sy) af;have b2:([x,y].map ak.bK)[0]? = some (.agg x.cells):=by rw [← ak.b6];rfl
      have bU:([x,y].map ak.bK)[1]? = some (.agg y.cells):=by rw [← ak.b6];rfl
      rw [ak.b6] at i1 i2;unfold gu fc at *;rcases U with U|U
      all_goals
        rw [Bw,U,ad,DW _ _ _ 0 [x,y] x C,DW _ _ _ 1 [x,y] y C];unfold ak.cells;rw [U,ad];refine b' ?_;cases vh:tO w bm args x with
        | true=>
          rw [vh] at i1;refine c2 ?_;exact bB I
        | false=>
          rw [vh] at i1;refine c2 ?_;exact bB I
def ob (w:bz) (f:ak) (bm:List eV) (args:List (Int×Int)):Bool×Int:=
 if iJ w f&&(pJ w bm args&&decide (lI f≤args.length)) then (tO w bm args f,0) else (false,2)
theorem WS {w:bz} {bm:List eV} {args:List (Int×Int)} (h:pJ w bm args=true):xj w bm∧args.length≤3∧∀ v∈args,hO bm.length v=true:=by
 unfold pJ at h;simp only [f8,i8,ah2] at h;exact ⟨xj.of h.1,h.2.2.1,h.2.2.2⟩
theorem H6 (w:bz) (hw:gz w) (f:ak) (a7:f.size<bC) (bm:List eV) (args:List (Int×Int)) (aC:bm.length<bC) (ai:∀ o∈bm,o.bp.length<bC) (a6:args.length<bC):aT d0 74 [fz w,f.bK,hx bm,lh args] (.cw [.bool (ob w f bm args).1,.int .i64 (ob w f bm args).2]):=by
 have an:=bD;refine aT.bh ah Tryz.func74 C C fun s I=>?_
 have U:=HW w hw [f] cV (by intro g av;rw [H1] at av;subst av;exact a7);have ad:=Wj w hw bm args aC ai a6;rw [ae3,ah1,ak6,ao3,aq5] at U;have dM:ob w f bm args=if iJ w f&&(pJ w bm args&&decide (lI f≤args.length)) then (tO w bm args f,0) else (false,2):=rfl
 cases al:iJ w f with
 | false=>
  rw [al,f9,f0 ba] at dM;rw [dM];rw [al,ak.b6] at U;rw [ak.b6];unfold fz fE df bd at *;unfold gu fc at *;refine b' ?_;exact bB I
 | true=>
  have av:=sr f w 12 24 al;have bf:=Wk w f.size f (g8 _) a7 av;rw [al,f5] at dM;rw [al] at U;cases bE:pJ w bm args with
  | false=>
   rw [bE,f9,f0 ba] at dM;rw [dM];rw [bE] at ad;rw [ak.b6] at U ⊢;unfold fz fE df bd at *;unfold gu fc at *;refine b' ?_;exact bB I
  | true=>
   obtain ⟨g1,g2,g3⟩:=WS bE;rw [bE,f5] at dM;rw [bE] at ad;by_cases hf:lI f≤args.length
   ·have ig:=WR w hw bm g1 args g3 g2 f.size f (g8 _) a7 av hf
    rw [g6 (by simpa using hf)] at dM;rw [dM];rw [ak.b6] at U bf ig ⊢;unfold fz fE df bd at *;unfold gu fc at *;refine b' ?_;refine ae.cond C (fun h=>?_) (fun _=>?_)
    ·exfalso
     simp at h;omega
    refine c2 ?_;exact bB I
   ·rw [f0 (by simpa using hf)] at dM
    rw [dM];rw [ak.b6] at U bf ⊢;unfold fz fE df bd at *;unfold gu fc at *;refine b' ?_;refine ae.cond C (fun h=>?_) (fun h=>?_)
    ·refine gX ?_
     exact bB I
    ·exfalso
     simp at h;omega
abbrev ch:=ak×Bool
def xo (x y:ch):Bool:=(x.2==y.2)&&ak.same x.1 y.1
theorem WT (x y:ch):xo x y=true↔x=y:=by
 obtain ⟨f,b⟩:=x;obtain ⟨g,c⟩:=y;unfold xo;simp only [f8,al6,ak.LP,Prod.mk.injEq];exact And.comm
def rI (out:List ch) (x:ch):List ch:=if out.any (xo x) then out else out++[x]
def jT (a b:List ch):List ch:=b.foldl rI a
theorem H7:∀ (b a:List ch),(jT a b).length≤a.length+b.length
  | [],a=>g8 _
  | x::r,a=>by
    have U:=H7 r (rI a x);have ad:(rI a x).length≤a.length+1:=by
      unfold rI;split
      · omega
      · simp
    have al:jT a (x::r)=jT (rI a x) r:=rfl;rw [al,g9];omega
theorem Ei {y:ch}:∀ (b a:List ch),y∈jT a b→y∈a∨y∈b
  | [],a,h => .inl h
  | x::r,a,h=>by
    rcases Ei r (rI a x) h with h|h
    · unfold rI at h
      split at h
      · exact .inl h
      · rcases ae'.1 h with h|h
        · exact .inl h
        · exact .inr (by rw [H1] at h;subst h;exact i6)
    · exact .inr (i0 _ h)
mutual
def ia (rJ:Bool):ak→List (List ch)
 | .mk o a p c n ks=>
  if o=1 then (if rJ then [] else [[]])
  else if o=5 then ir (!rJ) 0 ks
  else if (ak.mk o a p c n ks).c5 then [[(.mk o a p c n ks,rJ)]]
  else if rJ=decide (o=6) then ir rJ 0 ks++ir rJ 1 ks
  else (ir rJ 0 ks).flatMap fun x=>(ir rJ 1 ks).map (jT x)
def ir (rJ:Bool):Nat→List ak→List (List ch)
 | _,[]=>[]
 | 0,x::_=>ia rJ x
 | n+1,_::r=>ir rJ n r
end
theorem tX (c:Bool):∀ (n:Nat) (l:List ak) (x:ak),l[n]? = some x→ir c n l=ia c x
 | 0,y::r,x,h=>by rw [ir];simp at h;rw [h]
 | n+1,y::r,x,h=>by rw [ir];exact tX c n r x e2
theorem NA (b:Bool) (f:ak):ia b f=if f.op=1 then (if b then [] else [[]])
  else if f.op=5 then ir (!b) 0 f.kids
  else if f.c5 then [[(f,b)]]
  else if b=decide (f.op=6) then ir b 0 f.kids++ir b 1 f.kids
  else (ir b 0 f.kids).flatMap fun x=>(ir b 1 f.kids).map (jT x):=by cases f;rw [ia];rfl
def NB (n:Nat) (l:List ch):Prop:=l.length≤n∧∀ x∈l,x.1.size≤n
theorem WU (f:ak):1≤f.size:=by rw [ak.size_eq];omega
mutual
theorem H8:∀ (f:ak) (b:Bool),∀ l∈ia b f,NB f.size l
  | .mk o a p c n ks,b,l,h=>by
    rw [ia] at h;have iL:=(ak.mk o a p c n ks).size_eq;have y8:(ak.mk o a p c n ks).kids=ks:=rfl;rw [y8] at iL;split at h
    · split at h
      · cases h
      · rw [H1] at h;subst h;exact ⟨by simp,by simp⟩
    · split at h
      · have:=vi ks _ 0 l h
        exact ⟨by have:=this.1;omega,fun x ab=>by have:=this.2 x ab;omega⟩
      · split at h
        · rw [H1] at h;subst h
          exact ⟨WU _,fun x ab=>by rw [H1] at ab;subst ab;exact g8 _⟩
        · split at h
          · rcases ae'.1 h with h|h
            · have:=vi ks _ 0 l h
              exact ⟨by have:=this.1;omega,fun x ab=>by have:=this.2 x ab;omega⟩
            · have:=vi ks _ 1 l h
              exact ⟨by have:=this.1;omega,fun x ab=>by have:=this.2 x ab;omega⟩
          · obtain ⟨x,ab,h⟩:=List.mem_flatMap.1 h
            obtain ⟨y,ay,rfl⟩:=af'.1 h;have U:=NC ks b x y ab ay;refine ⟨by have:=H7 y x;omega,fun z bG=>?_⟩;rcases Ei y x bG with bG|bG
            · have:=(vi ks _ 0 x ab).2 z bG;omega
            · have:=(vi ks _ 1 y ay).2 z bG;omega
theorem vi:∀ (ks:List ak) (b:Bool) (n:Nat),∀ l∈ir b n ks,NB (ak.hN ks) l
  | [],b,n,l,h=>by rw [ir] at h;cases h
  | x::r,b,0,l,h=>by
    rw [ir] at h;have:=H8 x b l h;rw [ak.hN];exact ⟨by have:=this.1;omega,fun y ay=>by have:=this.2 y ay;omega⟩
  | x::r,b,n+1,l,h=>by
    rw [ir] at h;have:=vi r b n l h;rw [ak.hN];exact ⟨by have:=this.1;omega,fun y ay=>by have:=this.2 y ay;omega⟩
theorem NC:∀ (ks:List ak) (b:Bool) (x y:List ch),x∈ir b 0 ks→y∈ir b 1 ks→x.length+y.length≤ak.hN ks
  | [],b,x,y,h,_=>by rw [ir] at h;cases h
  | k::r,b,x,y,h,e3=>by
    rw [tX b 0 (k::r) k C] at h;rw [show (1:Nat)=0+1 from rfl,ir] at e3;have U:=(H8 k b x h).1;have ad:=(vi r b 0 y e3).1;rw [ak.hN];omega
end
theorem ND:∀ (a b:List ak),qx ak.same a b=ak.pI a b
 | [],[]=>by rw [qx,ak.pI]
 | [],_::_=>by rw [qx,ak.pI]<;>simp
 | _::_,[]=>by rw [qx,ak.pI]<;>simp
 | x::r,y::t=>by rw [qx,ak.pI,ND r t]
theorem WV (f g:ak):ak.same f g=(decide (f.op=g.op)&&(decide (f.arg=g.arg)&&(decide (f.cls=g.cls)&&(decide (f.n=g.n)&&(f.path==g.path&&ak.pI f.kids g.kids))))):=by
 cases f;cases g;rw [ak.same];rfl
theorem WW:∀ (n:Nat) (f g:ak),f.size≤n→n<bC→g.size<bC→aT d0 268 [f.bK,g.bK] (.bool (ak.same f g)):=by
  have an:=bD;intro n
  induction n with
  | zero=>intro x _ h;have:=x.size_eq;omega
  | succ n a1=>
    intro f g az jn av;have U:=f.size_eq;have ad:=g.size_eq;have lC:=ak.qq f.kids;have eT:=ak.qq g.kids;have al:=A1 f.path g.path af af
    have bf:=Vs (.func 268 [] []) ak.same f.kids g.kids af af (fun x ab y ay=>eF.fx (first:=[]) (cap:=[]) (by
      have:=ak.h8 ab
      have:=ak.h8 ay
      exact a1 x y af af af))
    rw [ND] at bf;refine aT.bh ah Tryz.func268 C C fun s I=>?_
    rw [ak.b6,ak.b6,WV];unfold bd a8 at al
    repeat' (first|(with_reducible first|apply ae.seq|apply b0|apply ae.ret)|refine c4 C ?_|refine ae.cF ?_|refine aa.nil ?_|refine cv C ?_|refine aa.skip C C C ?_|refine aa.ec C C C C C cx ?_|(fail_if_success refine aa.same true C ?_);(fail_if_success refine aa.same false C ?_);refine aa.hh C C (fun h=>?_) (fun h=>?_))
    all_goals (refine Fin.cB I C (aQ.of_eq (ae7 ag.bool ?_));clear I al bf a1;grind)
theorem WX (x y:ch) (ab:x.1.size<bC) (ay:y.1.size<bC):eF d0 (.func 267 [] [.bw (qy x) 0]) [h' y] (.bool (xo x y)):=by
 have an:=bD;refine eF.fx (first:=[]) (cap:=[.bw (qy x) 0]) ?_;refine aT.bh ah Tryz.func267 C C fun s I=>?_
 obtain ⟨f,b⟩:=x;obtain ⟨g,c⟩:=y;have U:=WW f.size f g (g8 _) ab ay;rw [ak.b6,ak.b6] at U;unfold h' qy xo;simp only
 repeat' (first|(with_reducible first|apply ae.seq|apply b0|apply ae.ret)|refine c4 C ?_|refine ae.cF ?_|refine aa.nil ?_|refine cv C ?_|refine aa.skip C C C ?_|refine aa.ec C C C C C cx ?_|(fail_if_success refine aa.same true C ?_);(fail_if_success refine aa.same false C ?_);refine aa.hh C C (fun h=>?_) (fun h=>?_))
 all_goals (refine Fin.cB I C (aQ.of_eq (ae7 ag.bool ?_));clear I U;grind)
theorem WY (l:List ch):∀ y∈l.map h',km 7 y=true:=Vv l
theorem WZ (l:List ch) (own:bN) (aC:l.length<bC):bA d0 265 [.aA 7 (l.map h') own] [] (fun o K=>∃ cM,o = .ret (.aA 7 (l.map h') cM)∧K=[(cM,.row 289 7 l.length)]):=by
 have an:=bD;refine bA.bh ah Tryz.func265 C C fun s I=>?_
 refine dt ?_;refine aa.op C C C (aZ.HE ah C C C C (X:=fun _ _=>False)) ?_ (fun _ _ h=>False.elim h);rintro r aj ⟨rfl,⟨rfl,az⟩|rfl⟩
 ·have uN:l.length=0:=by simpa using ae7 List.length az
  refine aa.h0 I 289 7 0 fun I=>?_
  refine ed ?_;rw [az,uN];exact Fin.bs I C (aQ.nil gN) (aG.all _) ⟨.nil,rfl,rfl⟩
 ·refine bl ?_
  refine aa.A6 I 289 7 0 fun I=>?_
  refine aa.rp ah I C C C C C C C di C C C C (.inr C) C (WY l) C .here C (n':=l.length) ba (by simp only [af6,af5,d9];show _*88≤_;omega) yY (fun pQ I=>?_);refine er ?_;exact Fin.bs I C aJ (aG.all _) ⟨pQ,rfl,rfl⟩
theorem W0 (fv:ag) (xs:List ch) (T:Nat→a') (cq:Nat→Bool) (aC:xs.length<bC) (h:∀ j x,xs[j]? = some x→(∀ i,i<j→cq i=false)→dA d0 fv [h' x] (T j) (fun o K=>o = .ret (.bool (cq j))∧K=T (j+1))) :
  bA d0 279 [.aA 7 (xs.map h') .bb,fv] (T 0)
   (fun o K=>(o = .ret (.int .i64 (-1))∧K=T xs.length∧∀ i,i<xs.length→cq i=false)∨∃ j,j<xs.length∧cq j=true∧(∀ i,i<j→cq i=false)∧o = .ret (.int .i64 (j:Int))∧K=T (j+1)):=by
 have an:=bD;refine bA.bh ah Tryz.func279 C C fun s I=>?_
 refine fP ?_;refine ae.yJ I (σ:=Nat) (fun j=>[(0,.aA 7 (xs.map h') .bb),(1,fv),(7,.int .i64 xs.length),(8,.int .i64 (j:Int))]) T (fun j=>j≤xs.length∧∀ i,i<j→cq i=false) (fun j=>xs.length-j) 0 ⟨by omega,fun i aR=>by omega⟩ AL (aG.all _) ?_;rintro j ⟨aL,aq⟩ I;refine b7 ?_;refine ae.cond C (fun au=>?_) (fun aV=>?_)
 ·have au:j<xs.length:=by simpa using au
  obtain ⟨x,ab,bL⟩:=b8 (f:=h') au;have aw:=h j x ab aq
  try rw [h'] at bL aw
  refine bl ?_;refine aa.gM rfl rfl rfl rfl rfl rfl aw I (aG.all _) ?_ (fun _ _ ⟨h,_⟩ _=>by cases h);rintro _ _ ⟨⟨⟩,rfl⟩ I;rw [d6] at I ⊢;cases oQ:cq j with
  | true=>
   refine bl ?_;exact Fin.bs I C aJ (aG.all _) (.inr ⟨j,au,oQ,aq,rfl,rfl⟩)
  | false=>
   refine bl ?_
   exact bn.mk (j+1) I ⟨au,fun i aR=>by
    rcases Nat.lt_succ_iff_lt_or_eq.1 aR with aR|rfl
    ·exact aq i aR
    ·exact oQ⟩ cj (aG.all _) sl
 ·have aV:j=xs.length:=by
   have:xs.length≤j:=by simpa using aV
   omega
  subst aV;refine ez ?_;exact Fin.bs I C aJ (aG.all _) (.inl ⟨rfl,rfl,aq⟩)
theorem W1 (fv:ag) (xs:List ch) (T:Nat→a') (cq:Nat→Bool) (aC:xs.length<bC) (h:∀ j x,xs[j]? = some x→(∀ i,i<j→cq i=false)→dA d0 fv [h' x] (T j) (fun o K=>o = .ret (.bool (cq j))∧K=T (j+1))) :
  bA d0 266 [.aA 7 (xs.map h') .bb,fv] (T 0)
   (fun o K=>(o = .ret (.bool false)∧K=T xs.length∧∀ i,i<xs.length→cq i=false)∨∃ j,j<xs.length∧cq j=true∧(∀ i,i<j→cq i=false)∧o = .ret (.bool true)∧K=T (j+1)):=by
 refine bA.bh ah Tryz.func266 C C fun s I=>?_
 refine dt ?_;refine aa.bX rfl rfl rfl rfl rfl (W0 fv xs T cq aC h) I (aG.all _) ?_ (fun _ _ h _=>by rcases h with ⟨h,_⟩|⟨_,_,_,_,h,_⟩<;>cases h);rintro _ _ (⟨⟨⟩,rfl,U⟩|⟨j,U,ad,al,⟨⟩,rfl⟩) I
 all_goals rw [d6] at I ⊢
 ·refine er ?_
  exact Fin.bs I C aJ (aG.all _) (.inl ⟨rfl,rfl,U⟩)
 ·refine er ?_
  exact Fin.bs I C (by simp;exact aJ) (aG.all _) (.inr ⟨j,U,ad,al,rfl,rfl⟩)
theorem W2 (fv:ag) (q:ch→Bool) (xs:List ch) (aC:xs.length<bC) (h:∀ x∈xs,eF d0 fv [h' x] (.bool (q x))) :
  aT d0 266 [.aA 7 (xs.map h') .bb,fv] (.bool (xs.any q)):=
 A9 (fun T cq eG=>W1 fv xs T cq aC eG) h
theorem W3 (a b:List ch) (aC:a.length+b.length<bC) (a6:∀ x∈a,x.1.size<bC) (lj:∀ x∈b,x.1.size<bC):aT d0 246 [.aA 7 (a.map h') .bb,.aA 7 (b.map h') .bb] (.aA 7 ((jT a b).map h') .bb):=by
 have an:=bD;refine aT.bh ah Tryz.func246 C C fun s I=>?_
 have U:=WZ a .bb af;have hlen:∀ j,(jT a (b.take j)).length≤a.length+j:=fun j=>by
  have:=H7 (b.take j) a;have:=List.length_take_le j b;omega
 have fH:∀ j,∀ x∈jT a (b.take j),x.1.size<bC:=fun j x ab=>by
  rcases Ei _ _ ab with h|h
  ·exact a6 x h
  ·exact lj x (ap0 h)
 refine dt ?_;refine aa.bX rfl rfl rfl rfl rfl U I (aG.all _) ?_ (fun _ _ ⟨_,h,_⟩ _=>by cases h);rintro _ _ ⟨W4,⟨⟩,rfl⟩ I;rw [d6] at I ⊢;refine bl ?_;refine ae.b5 [10,11] C I (σ:=Nat×bN) (fun q=>[(12,.int .i64 (q.1:Int)),(5,.aA 7 ((jT a (b.take q.1)).map h') q.2)]) (fun q=>[(q.2,.row 289 7 (jT a (b.take q.1)).length)]) (fun q=>q.1≤b.length) (fun q=>b.length-q.1) (0,W4) (g7 _) (cl C) aX ?_;rintro ⟨j,own⟩ aL I;simp only at aL I ⊢;refine b7 ?_;refine ae.cond C (fun au=>?_) (fun aV=>?_);rotate_left
 ·have aV:j=b.length:=by simp at aV;omega
  subst aV;rw [ae5];refine ez ?_;exact Fin.cB I C aQ.bb
 have au:j<b.length:=by simpa using au
 obtain ⟨x,ab,bL⟩:=b8 (f:=h') au;have ar:jT a (b.take (j+1))=rI (jT a (b.take j)) x:=by
  unfold jT;rw [il ab,ao0];rfl
 unfold rI at ar;have c':=lj x (d5 ab);have lC:=hlen j;have nS:=fH j;generalize dK:jT a (b.take j)=out at I ar lC nS ⊢;have aB:=W2 (.func 267 [] [.bw (qy x) 0]) (xo x) out af (fun y ay=>WX x y c' (nS y ay));cases aw:out.any (xo x) with
 | true=>
  rw [aw] at aB;rw [aw,g6 C] at ar;refine et ?_;exact bn.mk (j+1,own) I au kM (by show aG _ [(_,.row _ _ (jT a (b.take (j+1))).length)] _;rw [ar];exact aG.dB _) (by show b.length-(j+1)<b.length-j;omega)
 | false=>
  rw [aw] at aB;rw [aw,f0 ba] at ar;refine et ?_;refine aa.fO ah I C C C C C C C di C C C C C C C C aW gY (by show (_+1)*88≤_;omega) af (fun bR I=>?_);refine fj ?_;exact bn.mk (j+1,.own bR) I au (by repeat (first|exact trivial|refine ⟨⟨_,rfl,aJ⟩,?_⟩|refine ⟨⟨_,rfl,aQ.of_eq (by (first|rw [h7 af]|(rw [ar,ad'];rfl)))⟩,?_⟩)) (by show aG _ [(_,.row _ _ (jT a (b.take (j+1))).length)] _;rw [ar,f6,ag8];exact aG.dB _) (by show b.length-(j+1)<b.length-j;omega)
theorem dA.args {P:Program} {fv:ag} {xs ys:List ag} {K:a'} {aef:eC→a'→Prop} (h:cU xs ys) (k:dA P fv ys K aef):dA P fv xs K aef:=
 fun s I w p v vs cf aw aD=>k s I w p v vs cf aw (h.rel aD)
def W5 (dZ:Nat):ag := .func 243 [] [.ptr dZ 0]
abbrev qF (l:List ch):ag := .aA 7 (l.map h') .bb
def sD (dZ:Nat):dH := .box 287 [W5 dZ]
def Bx {α:Type} (Go:List α→a'→Prop) (fJ:a'→Prop) (fQ:ag→a'→Prop) (rem:List α) (o:eC) (aO:a'):Prop:=
 (o = .ret (.bool true)∧Go rem aO)∨(o = .ret (.bool false)∧fJ aO)∨∃ v,o = .panic v∧fQ v aO
structure By (dZ:Nat) (fv:ag) (Go:List (List ch)→a'→Prop) (fJ:a'→Prop) (fQ:ag→a'→Prop):Prop where
 one:cellsOf fv=some [fv]
 call:∀ x rem K,Go (x::rem) K→dA d0 fv [qF x] K (Bx Go fJ fQ rem)
 rK:∀ xs K,Go xs K→∃ R,bo K (.own dZ) (sD dZ) R
 xp:∀ K,fJ K→∃ R,bo K (.own dZ) (sD dZ) R
theorem W6 {dZ:Nat} {fv:ag} {Go:List (List ch)→a'→Prop} {fJ:a'→Prop} {fQ:ag→a'→Prop} (eG:By dZ fv Go fJ fQ) (a z:List ch) (aC:a.length+z.length<bC) (a6:∀ x∈a,x.1.size<bC) (bG:∀ x∈z,x.1.size<bC) (rem:List (List ch)) (K:a') (en:Go (jT a z::rem) K) :
  dA d0 (.func 245 [] [.bw [fv] 0,.bw [qF a] 0]) [qF z] K (Bx Go fJ fQ rem):=by
 refine dA.fx (first:=[]) (cap:=[.bw [fv] 0,.bw [qF a] 0]) ?_;refine bA.bh ah Tryz.func245 C C fun s I=>?_
 have U:=W3 a z aC a6 bG;have ad:=eG.call _ _ _ en;refine oG ?_;refine aK.Vh C C C C C C C ad I (aG.all _) ?_ ?_
 ·rintro x aO (⟨⟨⟩,av⟩|⟨⟨⟩,ax⟩|⟨_,⟨⟩,_⟩) I
  all_goals rw [d6] at I ⊢
  ·refine hi ?_
   exact Fin.bs I C aJ (aG.all _) (.inl ⟨rfl,av⟩)
  ·refine hi ?_
   exact Fin.bs I C aJ (aG.all _) (.inr (.inl ⟨rfl,ax⟩))
 ·rintro x aO (⟨h,_⟩|⟨h,_⟩|⟨v,⟨⟩,aF⟩) I
  ·cases h
  ·cases h
  rw [d6] at I ⊢;exact Fin.fi I aJ (aG.all _) (.inr (.inr ⟨_,rfl,aF⟩))
theorem W7 (w:bz) (dZ:Nat):∀ (n:Nat) (f:ak),f.size≤n→n<bC→gH w f=true→∀ (b:Bool) (fv:ag) (Go:List (List ch)→a'→Prop) (fJ:a'→Prop) (fQ:ag→a'→Prop),By dZ fv Go fJ fQ →
  ∀ (rest:List (List ch)) (K:a'),Go (ia b f++rest) K→bA d0 243 [f.bK,.bool b,fv,.ptr dZ 0] K (Bx Go fJ fQ rest):=by
 have an:=bD;intro n
 induction n with
 | zero=>intro x h;have:=x.size_eq;omega
 | succ n a1=>
  intro f az jn av b fv Go fJ fQ eG rest K en;obtain ⟨R,ar⟩:=eG.rK _ _ en;have ve:=eG.one;have iL:=f.size_eq;have fA:=NA b f;rw [oL,f8] at av;obtain ⟨n6,kU⟩:=av;have hP:=HS f;rw [ak.b6] at hP;refine bA.bh ah Tryz.func243 C C fun s I=>?_
  rw [ak.b6];rcases Bv n6 with ⟨U,ad⟩|⟨aC,ad,U⟩|⟨U,x,ad⟩|⟨U,x,y,ad⟩
  ·rw [fA,U,g6 C] at en
   unfold ak.cells;rw [U];cases b with
   | true=>
    refine jE ?_;refine aa.jC I C C C C C ve (fun rL I=>?_);refine aa.l5 I 6 rL C .here (fun I=>?_);refine bl ?_;exact Fin.bs I C aJ (aG.all _) (.inl ⟨rfl,en⟩)
   | false=>
    have al:=dA.args (show cU [.aA 0 [] .nil] [qF []] from .one aQ.empty) (eG.call _ _ _ en);refine jE ?_;refine aa.jC I C C C C C ve (fun rL I=>?_);refine aa.l5 I 6 rL C .here (fun I=>?_);refine bl ?_;refine aa.gM C C C C C C al I (aG.all _) ?_ ?_
    ·rintro x aO (⟨⟨⟩,av⟩|⟨⟨⟩,ax⟩|⟨_,⟨⟩,_⟩) I
     all_goals rw [d6] at I ⊢
     ·refine bl ?_
      exact Fin.bs I C aJ (aG.all _) (.inl ⟨rfl,av⟩)
     ·refine bl ?_
      exact Fin.bs I C aJ (aG.all _) (.inr (.inl ⟨rfl,ax⟩))
    ·rintro x aO (⟨h,_⟩|⟨h,_⟩|⟨v,⟨⟩,aF⟩) I
     ·cases h
     ·cases h
     rw [d6] at I ⊢;exact Fin.fi I aJ (aG.all _) (.inr (.inr ⟨_,rfl,aF⟩))
  ·rw [fA,f0 af,f0 af,g6 aC] at en
   rw [aC] at hP;have cu:(f.op==1)=false:=by simp;omega
   have cL:(f.op==5)=false:=by simp;omega
   have al:=dA.args (show cU [.aA 7 [h' (f,b)] .clip] [qF [(f,b)]] from .one aQ.bb) (eG.call _ _ _ en);unfold h' qy ak.cells at al;unfold ak.cells;refine jE ?_;refine aa.jC I C C C C C ve (fun rL I=>?_);refine aa.l5 I 6 rL C .here (fun I=>?_);refine bl ?_;refine ae.cond C (fun h=>by rw [cu] at h;cases h) (fun _=>?_);refine b7 ?_;refine ae.cond C (fun h=>by rw [cL] at h;cases h) (fun _=>?_);refine c2 ?_;refine aa.gM C C C C C C al I (aG.all _) ?_ ?_
   ·rintro x aO (⟨⟨⟩,av⟩|⟨⟨⟩,ax⟩|⟨_,⟨⟩,_⟩) I
    all_goals rw [d6] at I ⊢
    ·refine bl ?_
     exact Fin.bs I C aJ (aG.all _) (.inl ⟨rfl,av⟩)
    ·refine bl ?_
     exact Fin.bs I C aJ (aG.all _) (.inr (.inl ⟨rfl,ax⟩))
   ·rintro x aO (⟨h,_⟩|⟨h,_⟩|⟨v,⟨⟩,aF⟩) I
    ·cases h
    ·cases h
    rw [d6] at I ⊢;exact Fin.fi I aJ (aG.all _) (.inr (.inr ⟨_,rfl,aF⟩))
  ·have ab:=ak.h8 (l:=f.kids) (x:=x) ld
   have i1:=a1 x af af (kr kU ld) (!b) fv Go fJ fQ eG rest K;have b2:([x].map ak.bK)[0]? = some (.agg x.cells):=by rw [← ak.b6];rfl
   rw [fA,U,f0 af,g6 C,ad,tX _ 0 [x] x C] at en;have i1:=dA.fx (first:=[]) (args:=[x.bK,.bool (!b),fv]) (cap:=[.ptr dZ 0]) (i1 en);rw [ak.b6] at i1;unfold sD at ar;unfold ak.cells;rw [U,ad];refine jE ?_;refine aa.jC I C C C C C ve (fun rL I=>?_);refine aa.l5 I 6 rL C .here (fun I=>?_);refine aa.run ah C (aa.nil ?_)
   repeat (first
    | refine ae.sw I dZ ar ah mixed C ?_
    | with_reducible apply ae.seq
    | with_reducible apply b0
    | with_reducible apply fh
    | with_reducible apply ae.block
    | refine ae.fM C ?_
    | refine ae.gT C ?_
    | refine c4 C ?_
    | refine ae.skip ?_)
   refine c2 ?_;refine aK.Bb C C C C C C C i1 I (aG.all _) (fun x aO h=>?_) ?_ ?_
   ·rw [d6]
    rcases h with ⟨_,h⟩|⟨_,h⟩|⟨_,h,_⟩
    ·exact eG.rK _ _ h
    ·exact eG.xp _ h
    ·cases h
   ·rintro x aO (⟨⟨⟩,av⟩|⟨⟨⟩,ax⟩|⟨_,⟨⟩,_⟩) I
    all_goals rw [d6] at I ⊢
    ·refine hi ?_
     exact Fin.bs I C aJ (aG.all _) (.inl ⟨rfl,av⟩)
    ·refine hi ?_
     exact Fin.bs I C aJ (aG.all _) (.inr (.inl ⟨rfl,ax⟩))
   ·rintro x aO (⟨h,_⟩|⟨h,_⟩|⟨v,⟨⟩,aF⟩) I
    ·cases h
    ·cases h
    rw [d6] at I ⊢;exact Fin.fi I aJ (aG.all _) (.inr (.inr ⟨_,rfl,aF⟩))
  ·have ab:=ak.h8 (l:=f.kids) (x:=x) ld
   have ay:=ak.h8 (l:=f.kids) (x:=y) sy;have i1:=a1 x af af (kr kU ld) b;have i2:=a1 y af af (kr kU sy) b;have b2:([x,y].map ak.bK)[0]? = some (.agg x.cells):=by rw [← ak.b6];rfl
   have bU:([x,y].map ak.bK)[1]? = some (.agg y.cells):=by rw [← ak.b6];rfl
   have nO:f.c5=false:=by unfold ak.c5;simp;omega
   have H9:=vi f.kids b;have vj:=NC f.kids b;rw [nO] at hP;have adf:=en;rw [fA,f0 af,f0 af,f0 (by rw [nO];simp),ad,tX _ 0 [x,y] x C,tX _ 1 [x,y] y C] at en;rw [ad] at H9 vj;have NF:=H9 0;have NG:=H9 1;rw [tX _ 0 [x,y] x C] at NF;rw [tX _ 1 [x,y] y C] at NG;rw [tX _ 0 [x,y] x C,tX _ 1 [x,y] y C] at vj;have cc:ak.hN [x,y]<bC:=by rw [← ad];omega
   unfold sD at ar;unfold ak.cells at hP ⊢;by_cases H':b=decide (f.op=6)
   ·rw [g6 H',ah0] at en
    have xq:=dA.fx (first:=[]) (args:=[x.bK,.bool b,fv]) (cap:=[.ptr dZ 0]) (i1 fv Go fJ fQ eG _ K en);have lP:=fun K en=>dA.fx (first:=[]) (args:=[y.bK,.bool b,fv]) (cap:=[.ptr dZ 0]) (i2 fv Go fJ fQ eG rest K en)
    rw [ak.b6] at xq lP;have cu:(f.op==1)=false:=by simp;omega
    have cL:(f.op==5)=false:=by simp;omega
    have dT:(b==(f.op==6))=true:=by rw [H'];by_cases hf:f.op=6<;>simp [hf]
    rw [ad] at hP ⊢;refine jE ?_;refine aa.jC I C C C C C ve (fun rL I=>?_);refine aa.l5 I 6 rL C .here (fun I=>?_);refine bl ?_;refine ae.cond C (fun h=>by rw [cu] at h;cases h) (fun _=>?_);refine b7 ?_;refine ae.cond C (fun h=>by rw [cL] at h;cases h) (fun _=>?_);refine b' ?_;refine ae.cond C (fun _=>?_) (fun h=>by rw [dT] at h;cases h)
    repeat (first
     | refine ae.sw I dZ ar ah mixed C ?_
     | with_reducible apply ae.seq
     | with_reducible apply b0
     | with_reducible apply fh
     | with_reducible apply ae.block
     | refine ae.fM C ?_
     | refine ae.gT C ?_
     | refine c4 C ?_
     | refine ae.skip ?_)
    refine c2 ?_;refine aK.Bb C C C C C C C xq I (aG.all _) (fun x aO h=>?_) ?_ ?_
    ·rw [d6]
     rcases h with ⟨_,h⟩|⟨_,h⟩|⟨_,h,_⟩
     ·exact eG.rK _ _ h
     ·exact eG.xp _ h
     ·cases h
    rotate_left
    ·rintro x aO (⟨h,_⟩|⟨h,_⟩|⟨v,⟨⟩,aF⟩) I
     ·cases h
     ·cases h
     rw [d6] at I ⊢;exact Fin.fi I aJ (aG.all _) (.inr (.inr ⟨_,rfl,aF⟩))
    rintro _ aO (⟨⟨⟩,av⟩|⟨⟨⟩,ax⟩|⟨_,h,_⟩) I
    ·rw [d6] at I ⊢
     refine c2 ?_;refine aK.Bb C C C C C C C (lP _ av) I (aG.all _) (fun x aO h=>?_) ?_ ?_
     ·rw [d6]
      rcases h with ⟨_,h⟩|⟨_,h⟩|⟨_,h,_⟩
      ·exact eG.rK _ _ h
      ·exact eG.xp _ h
      ·cases h
     ·rintro x aO (⟨⟨⟩,av⟩|⟨⟨⟩,ax⟩|⟨_,⟨⟩,_⟩) I
      all_goals rw [d6] at I ⊢
      ·refine hi ?_
       exact Fin.bs I C aJ (aG.all _) (.inl ⟨rfl,av⟩)
      ·refine hi ?_
       exact Fin.bs I C aJ (aG.all _) (.inr (.inl ⟨rfl,ax⟩))
     ·rintro x aO (⟨h,_⟩|⟨h,_⟩|⟨v,⟨⟩,aF⟩) I
      ·cases h
      ·cases h
      rw [d6] at I ⊢;exact Fin.fi I aJ (aG.all _) (.inr (.inr ⟨_,rfl,aF⟩))
    ·rw [d6] at I ⊢
     refine hi ?_;exact Fin.bs I C aJ (aG.all _) (.inr (.inl ⟨rfl,ax⟩))
    ·cases h
   ·rw [f0 H'] at en
    have cu:(f.op==1)=false:=by simp;omega
    have cL:(f.op==5)=false:=by simp;omega
    have dT:(b==(f.op==6))=false:=by
     cases b<;>simp_all
    have W8:∀ (a:List ch) (rest:List (List ch)),a∈ia b x→By dZ (.func 245 [] [.bw [fv] 0,.bw [qF a] 0]) (fun aW K=>(∀ z∈aW,z∈ia b y)∧Go (aW.map (jT a)++rest) K) fJ fQ:=fun a rest a6=>by
     refine ⟨rfl,fun z rem K ⟨bG,av⟩=>?_,fun xs K h=>eG.rK _ _ h.2,eG.xp⟩;have Ia:=bG z i6;refine dA.mono (W6 eG a z (by have:=vj a z a6 Ia;omega) (fun u hu=>by have:=(NF a a6).2 u hu;omega) (fun u hu=>by have:=(NG z Ia).2 u hu;omega) (rem.map (jT a)++rest) K av) ?_;rintro o aO (⟨U,h⟩|h|h)
     ·exact .inl ⟨U,fun z n3=>bG z (i0 _ n3),h⟩
     ·exact .inr (.inl h)
     ·exact .inr (.inr h)
    have W9:By dZ (.func 244 [] [.ptr dZ 0,.bw f.cells 0,.bw [.bool b] 0,.bw [fv] 0]) (fun xs K=>(∀ a∈xs,a∈ia b x)∧Go ((xs.flatMap fun a=>(ia b y).map (jT a))++rest) K) fJ fQ:=by
     refine ⟨rfl,fun a rem K ⟨a6,av⟩=>?_,fun xs K h=>eG.rK _ _ h.2,eG.xp⟩;obtain ⟨R,ar⟩:=eG.rK _ _ av;unfold sD at ar;refine dA.fx (first:=[]) (cap:=[.ptr dZ 0,.bw f.cells 0,.bw [.bool b] 0,.bw [fv] 0]) ?_;refine bA.bh ah Tryz.func244 C C fun s I=>?_
     rw [List.flatMap_cons,ah0] at av;have lP:=dA.fx (first:=[]) (args:=[y.bK,.bool b,.func 245 [] [.bw [fv] 0,.bw [qF a] 0]]) (cap:=[.ptr dZ 0]) (i2 _ _ fJ fQ (W8 a ((rem.flatMap fun a=>(ia b y).map (jT a))++rest) (a6 a i6)) [] K ⟨fun z bG=>by rw [d6] at bG;exact bG,by rw [d6];exact av⟩);rw [ak.b6] at lP;unfold ak.cells;rw [ad];unfold ak.cells at lP
     repeat (first
      | refine ae.sw I dZ ar ah mixed C ?_
      | with_reducible apply ae.seq
      | with_reducible apply b0
      | with_reducible apply fh
      | with_reducible apply ae.block
      | refine ae.fM C ?_
      | refine ae.gT C ?_
      | refine c4 C ?_
      | refine ae.skip ?_)
     refine c2 ?_;refine aK.Bb C C C C C C C lP I (aG.all _) (fun x aO h=>?_) ?_ ?_
     ·rw [d6]
      rcases h with ⟨_,h⟩|⟨_,h⟩|⟨_,h,_⟩
      ·exact eG.rK _ _ h.2
      ·exact eG.xp _ h
      ·cases h
     ·rintro x aO (⟨⟨⟩,av⟩|⟨⟨⟩,ax⟩|⟨_,⟨⟩,_⟩) I
      all_goals rw [d6] at I ⊢
      ·refine hi ?_
       exact Fin.bs I C aJ (aG.all _) (.inl ⟨rfl,fun z bG=>a6 z (i0 _ bG),av.2⟩)
      ·refine hi ?_
       exact Fin.bs I C aJ (aG.all _) (.inr (.inl ⟨rfl,ax⟩))
     ·rintro x aO (⟨h,_⟩|⟨h,_⟩|⟨v,⟨⟩,aF⟩) I
      ·cases h
      ·cases h
      rw [d6] at I ⊢;exact Fin.fi I aJ (aG.all _) (.inr (.inr ⟨_,rfl,aF⟩))
    have xq:=dA.fx (first:=[]) (args:=[x.bK,.bool b,.func 244 [] [.ptr dZ 0,.bw f.cells 0,.bw [.bool b] 0,.bw [fv] 0]]) (cap:=[.ptr dZ 0]) (i1 _ _ fJ fQ W9 [] K ⟨fun z bG=>by rw [d6] at bG;exact bG,by rw [d6];exact en⟩);rw [ak.b6] at xq;unfold ak.cells at xq;rw [ad] at xq hP ⊢;refine jE ?_;refine aa.jC I C C C C C ve (fun rL I=>?_);refine aa.l5 I 6 rL C .here (fun I=>?_);refine bl ?_;refine ae.cond C (fun h=>by rw [cu] at h;cases h) (fun _=>?_);refine b7 ?_;refine ae.cond C (fun h=>by rw [cL] at h;cases h) (fun _=>?_);refine b' ?_;refine ae.cond C (fun h=>by rw [dT] at h;cases h) (fun _=>?_)
    repeat (first
     | refine ae.sw I dZ ar ah mixed C ?_
     | with_reducible apply ae.seq
     | with_reducible apply b0
     | with_reducible apply fh
     | with_reducible apply ae.block
     | refine ae.fM C ?_
     | refine ae.gT C ?_
     | refine c4 C ?_
     | refine ae.skip ?_)
    refine c2 ?_;refine aK.Bb C C C C C C C xq I (aG.all _) (fun x aO h=>?_) ?_ ?_
    ·rw [d6]
     rcases h with ⟨_,h⟩|⟨_,h⟩|⟨_,h,_⟩
     ·exact eG.rK _ _ h.2
     ·exact eG.xp _ h
     ·cases h
    ·rintro x aO (⟨⟨⟩,av⟩|⟨⟨⟩,ax⟩|⟨_,⟨⟩,_⟩) I
     all_goals rw [d6] at I ⊢
     ·refine hi ?_
      exact Fin.bs I C aJ (aG.all _) (.inl ⟨rfl,av.2⟩)
     ·refine hi ?_
      exact Fin.bs I C aJ (aG.all _) (.inr (.inl ⟨rfl,ax⟩))
    ·rintro x aO (⟨h,_⟩|⟨h,_⟩|⟨v,⟨⟩,aF⟩) I
     ·cases h
     ·cases h
     rw [d6] at I ⊢;exact Fin.fi I aJ (aG.all _) (.inr (.inr ⟨_,rfl,aF⟩))
def pT (k:IntKind) (xs:List Int):Value := .agg (xs.map (Value.int k)).toArray
def kx (k:IntKind) (xs:List Int):ag := .agg (xs.map (ag.int k))
structure sE (P:Program) (dW:TypeId) (k:IntKind) (n:Nat):Prop where
 wide:(match P.underlying dW with|some (.array _ _)|some (.struct _)=>true|_=>false)=true
 check:∀ e xs,xs.length=n→∀ w,(Instr.checkKey e 10000 dW (pT k xs)).run P w = .ok () w
 eq:∀ xs ys,xs.length=n→ys.length=n→∀ w,(Op.equal dW (pT k xs) (pT k ys)).run P w = .ok (xs==ys) w
theorem Bz {w:World} {p:bV} {k:IntKind} {v:Value}:∀ {xs:List Int},Rel w p v (kx k xs)→v=pT k xs:=by
 intro xs h;cases h with
 | agg cs _ aD=>
 have:∀ {l:List Value} {xs:List Int},bH w p l (xs.map (ag.int k))→l=xs.map (Value.int k):=by
  intro l
  induction l with
  | nil=>intro xs h;cases xs with|nil=>rfl|cons x r=>cases h
  | cons v l a1=>
   intro xs h;cases xs with
   | nil=>cases h
   | cons x r=>
    cases h with
    | cons _ _ _ _ U ad=>
    cases U;rw [a1 ad];rfl
 unfold pT;rw [← this aD]
def mS (k:IntKind) (l:List (List Int×ag)):List (ag×ag):=l.map fun e=>(kx k e.1,e.2)
theorem NH {P:Program} {dW:TypeId} {k:IntKind} {n:Nat} (gO:sE P dW k n) {w:World} {p:bV} {xs:List Int} (ab:xs.length=n):∀ (cQ:List MapEntry) (l:List (List Int×ag)) (i:Nat),
  lW w p cQ (mS k l)→(∀ e∈l,e.1.length=n) →
  match l.find? (fun e=>e.1==xs) with
  | none=>(Instr.findAsking dW (pT k xs) cQ i).run P w = .ok none w
  | some e=>∃ j val,(Instr.findAsking dW (pT k xs) cQ i).run P w = .ok (some (j,val)) w∧Rel w p val e.2:=by
 intro cQ
 induction cQ with
 | nil=>
  intro l i aD aC;cases l with
  | nil=>rfl
  | cons e r=>exact absurd aD.1.length (by simp only [mS,ae3,ah1,g9,af6];omega)
 | cons m cQ a1=>
  intro l i aD aC;cases l with
  | nil=>exact absurd aD.1.length (by simp only [mS,ae3,ah1,g9,af6];omega)
  | cons e r=>
   obtain ⟨yw,ti⟩:=aD;simp only [mS,ae3] at yw ti;cases yw with|cons _ _ _ _ aE tj=>cases ti with|cons _ _ _ _ aw q7=>
   have he:=Bz aE;have br:=gO.eq xs e.1 ab (aC e i6) w;rw [← he] at br;have aB:(xs==e.1)=(e.1==xs):=by rw [af7,al6,al6];exact ⟨fun h=>h.symm,fun h=>h.symm⟩
   rw [aB] at br;rw [ay1];cases an:e.1==xs with
   | true=>
    rw [an] at br;simp only;refine ⟨i,m.val,?_,aw⟩;unfold Instr.findAsking;simp only [ac',br,i5];rfl
   | false=>
    rw [an] at br;simp only;have:=a1 r (i+1) ⟨tj,q7⟩ (fun e he=>aC e (i0 _ he));have wN:(Instr.findAsking dW (pT k xs) (m::cQ) i).run P w=(Instr.findAsking dW (pT k xs) cQ (i+1)).run P w:=by
     conv=>lhs;unfold Instr.findAsking
     simp only [ac',br,i5];rfl
    rw [wN];exact this
section
variable {P:Program} {Γ:cA} {N:Nat} {env:Env} {s:ao} {o:Oper} {d:Nat} {ops:Array Oper} {rest:List Oper} {Q:b9→Env→ao→Prop} {L R:a'} {l:List Oper} {i:Nat} {J:ao→Prop}
theorem aZ.y9 (aP:bQ P Γ) {t dW e5:TypeId} {x y:Operand} {ok:Bool} {it aH:bO} {b n:Nat} {k:IntKind} {es:List (List Int×ag)} {xs:List Int} {z:ag} (gO:sE P dW k n) (ai:o.op = .lookup t x y ok)
  (aN:Γ.get? t=some it) (bt:it.bF = .map dW e5) (bJ:Γ.get? e5=some aH) (ab:aM env x=some (.map b)) (ay:aM env y=some (kx k xs)) (az:xs.length=n) (qG:∀ e∈es,e.1.length=n)
  (ar:s b=some (.map (mS k es))) (bG:hH aH.zero=some z) {X:ag→ao→Prop} :
  aZ P N o env s (fun x aj=>x=l0 ok z ((es.find? fun e=>e.1==xs).map (·.2))∧aj=s) X:=by
 refine aZ.kB iW fun ro B a w p aI=>?_
 obtain ⟨info,w0,U,ad,al,-⟩:=aP.parts aN;obtain ⟨j1,kC,Gd,Al,Sw,-,-,Ge⟩:=aP.parts bJ;have ax:w0 = .map dW e5:=by rw [bt] at al;cases w0<;>simp [eB] at al;rw [al.1,al.2]
 subst ax;have aD:=aI.aM ab;have kD:=Bz (aI.aM ay);generalize ep:a.eval x=dR at aD;cases aD;have Gf:(zeroValue e5).run P w = .ok aH.zero w:=by simp [zeroValue,typeInfo,Gd,Ge]
 obtain ⟨cQ,clock,g1,g2,-⟩:=aI.wf.obj _ _ ar;have a7:=NH gO az cQ.toList es 0 g2 qG;have Gh:∃ val,(Instr.lookup t (.map (some b)) (a.eval y) ok).run P w = .ok val w∧Rel w p val (l0 ok z ((es.find? fun e=>e.1==xs).map (·.2))):=by
  unfold Instr.lookup;rw [kD];simp only [ac',run_underlying ad,i5,yx g1 C,ae6,gO.check _ xs az,run_findKey_eq w gO.wide];cases fA:es.find? fun e=>e.1==xs with
  | none=>
   rw [fA] at a7;simp only at a7;simp only [a7,i5,ac',Gf,ae6,l0,at2];cases ok
   ·exact ⟨_,rfl,q4 bG⟩
   ·exact ⟨_,rfl,.cw _ _ (.cons _ _ _ _ (q4 bG) (.cons _ _ _ _ (.bool _) .nil))⟩
  | some e=>
   rw [fA] at a7;obtain ⟨j,val,ea,dj⟩:=a7;simp only [ea,i5,ae6,l0,ao9];cases ok
   ·exact ⟨_,rfl,dj⟩
   ·exact ⟨_,rfl,.cw _ _ (.cons _ _ _ _ dj (.cons _ _ _ _ (.bool _) .nil))⟩
 obtain ⟨val,cS,eW⟩:=Gh;refine ⟨val,w,s,p,_,?_,.refl w p,.refl s w p,aI.wf,⟨rfl,rfl⟩,eW⟩;unfold execOp;rw [ai];simp only [ep];exact gV cS
theorem aZ.BA (aP:bQ P Γ) {t dW e5:TypeId} {x y z:Operand} {it:bO} {b n:Nat} {k:IntKind} {es:List (List Int×ag)} {xs:List Int} {v:ag} (gO:sE P dW k n) (ai:o.op = .mapUpdate t x y z∨o.op = .insert t x y z)
  (aN:Γ.get? t=some it) (bt:it.bF = .map dW e5) (ab:aM env x=some (.map b)) (ay:aM env y=some (kx k xs)) (bG:aM env z=some v) (az:xs.length=n) (qG:∀ e∈es,e.1.length=n)
  (ar:s b=some (.map (mS k es))) (Am:es.find? (fun e=>e.1==xs)=none) {X:ag→ao→Prop} :
  aZ P N o env s (fun _ aj=>aj=s.set b (.map (mS k (es++[(xs,v)])))) X:=by
 refine aZ.Gb (by rcases ai with ai|ai<;>simp [gJ,ai]) fun ro B a w p aI=>?_
 obtain ⟨info,w0,U,ad,al,-⟩:=aP.parts aN;have ax:w0 = .map dW e5:=by rw [bt] at al;cases w0<;>simp [eB] at al;rw [al.1,al.2]
 subst ax;have aD:=aI.aM ab;have NI:=aI.aM ay;have kD:=Bz NI;have Gj:=aI.aM bG;obtain ⟨cQ,clock,g1,g2,g3,g4⟩:=aI.wf.obj _ _ ar;generalize ep:a.eval x=dR at aD;cases aD;have a7:=NH gO az cQ.toList es 0 g2 qG;rw [Am] at a7;simp only at a7;have cS:(Instr.mapUpdate t (.map (some b)) (a.eval y) (a.eval z)).run P w = .ok () { w with heap:=w.heap.setIfInBounds b (.map (cQ.push { key:=a.eval y,val:=a.eval z,born:=clock }) (clock+1)) }:=by
  unfold Instr.mapUpdate;rw [kD];simp only [ac',run_underlying ad,i5,yx g1 C,gO.check _ xs az,run_findKey_eq w gO.wide,a7];simp [setObj,Sem.run,g1]
 have W':∀ w',(Instr.mapUpdate t (.map (some b)) (a.eval y) (a.eval z)).run P w = .ok () w'→(execOp a.eval o).run P w = .ok .skip w':=by
  intro w' hw;unfold execOp;rcases ai with ai|ai<;>rw [ai]<;>simp only [ep]<;>simp only [ac',hw,i5,ae6]
 have eW:lW w p (cQ.push { key:=a.eval y,val:=a.eval z,born:=clock }).toList (mS k (es++[(xs,v)])):=by
  unfold mS;rw [as7,ad'];exact ⟨by rw [ad',ad'];exact g2.1.append (.cons _ _ _ _ NI .nil),by rw [ad',ad'];exact g2.2.append (.cons _ _ _ _ Gj .nil)⟩
 obtain ⟨cE,dq,fl⟩:=Gi aI.wf ar (mes':=cQ.push { key:=a.eval y,val:=a.eval z,born:=clock }) (clock':=clock+1) eW
  (by intro e he;simp only [as7,ae',H1] at he;rcases he with he|rfl;have:=g3 e he;omega;simp)
  (by
   simp only [as7,ad',ae3,ah1]
   rw [List.nodup_append]
   refine ⟨g4,by simp,?_⟩
   intro x ab y ay e
   simp only [H1] at ay
   obtain ⟨m,hm,rfl⟩:=af'.1 ab
   have:=g3 m hm
   omega) _ C
 exact ⟨_,_,p,W' _ cS,cE,dq,fl,rfl⟩
theorem aK.y9 (aP:bQ P Γ) (I:Ok s L) {t dW e5:TypeId} {x y:Operand} {BB:Bool} {it aH:bO} {b n:Nat} {k:IntKind} {es:List (List Int×ag)} {xs:List Int} {z:ag} (gO:sE P dW k n) (av:c6 l env o) (ax:o.dst=some d) (aU:t8 d N=true) (ai:o.op = .lookup t x y BB)
  (aN:Γ.get? t=some it) (bt:it.bF = .map dW e5) (bJ:Γ.get? e5=some aH) (ab:aM (b4 l env o) x=some (.map b)) (ay:aM (b4 l env o) y=some (kx k xs)) (az:xs.length=n) (qG:∀ e∈es,e.1.length=n)
  (ar:bo L (.own b) (.map (mS k es)) R) (bG:hH aH.zero=some z)
  (h:aK (fun aj=>aj=aS s L) P Γ N l (i+1) rest Q ((d,l0 BB z ((es.find? fun e=>e.1==xs).map (·.2)))::env) (aS s L)):aK (fun aj=>aj=aS s L) P Γ N l i (o::rest) Q env (aS s L):=
 aK.calm av ax aU (fun _ e=>by subst e;exact aZ.y9 aP gO ai aN bt bJ ab ay az qG (ar.get I) bG) h
theorem aa.y9 (aP:bQ P Γ) (I:Ok s L) {t dW e5:TypeId} {x y:Operand} {BB:Bool} {it aH:bO} {b n:Nat} {k:IntKind} {es:List (List Int×ag)} {xs:List Int} {z:ag} (gO:sE P dW k n) (av:guardOf ops env o=some true) (ax:o.dst=some d) (aU:t8 d N=true) (ai:o.op = .lookup t x y BB)
  (aN:Γ.get? t=some it) (bt:it.bF = .map dW e5) (bJ:Γ.get? e5=some aH) (ab:aM env x=some (.map b)) (ay:aM env y=some (kx k xs)) (az:xs.length=n) (qG:∀ e∈es,e.1.length=n)
  (ar:bo L (.own b) (.map (mS k es)) R) (bG:hH aH.zero=some z)
  (h:aa P N ops rest Q ((d,l0 BB z ((es.find? fun e=>e.1==xs).map (·.2)))::env) (aS s L)):aa P N ops (o::rest) Q env (aS s L):=
 aa.op av ax aU (aZ.y9 aP gO ai aN bt bJ ab ay az qG (ar.get I) bG (X:=fun _ _=>False)) (fun x aj ⟨U,ad⟩=>by subst U;subst ad;exact h) (fun _ _ h=>h.elim)
theorem aK.BA (aP:bQ P Γ) (I:Ok s L) {t dW e5:TypeId} {x y z:Operand} {it:bO} {b n:Nat} {k:IntKind} {es:List (List Int×ag)} {xs:List Int} {v:ag} (gO:sE P dW k n) (av:c6 l env o) (ax:o.dst=none) (ma:kI l.toArray i=true) (ai:o.op = .mapUpdate t x y z∨o.op = .insert t x y z)
  (aN:Γ.get? t=some it) (bt:it.bF = .map dW e5) (ab:aM (b4 l env o) x=some (.map b)) (ay:aM (b4 l env o) y=some (kx k xs)) (bG:aM (b4 l env o) z=some v) (az:xs.length=n) (qG:∀ e∈es,e.1.length=n)
  (ar:bo L (.own b) (.map (mS k es)) R) (Am:es.find? (fun e=>e.1==xs)=none)
  (h:Ok s ((.own b,.map (mS k (es++[(xs,v)])))::R)→Q .normal env (aS s ((.own b,.map (mS k (es++[(xs,v)])))::R))):aK J P Γ N l i [o] Q env (aS s L):=
 aK.HG av ax ma (aZ.BA aP gO ai aN bt ab ay bG az qG (ar.get I) Am (X:=fun _ _=>False)) (fun x aj U=>by
  obtain ⟨b2,bU⟩:=ar.put (.map (mS k (es++[(xs,v)]))) I
  rw [U,b2];exact h bU) (fun _ _ h=>h.elim)
end
theorem four {xs:List Int} (h:xs.length=4):∃ a b c d,xs=[a,b,c,d]:=by
 match xs,h with
 | [a,b,c,d],_=>exact ⟨a,b,c,d,rfl⟩
theorem two {xs:List Int} (h:xs.length=2):∃ a b,xs=[a,b]:=by
 match xs,h with
 | [a,b],_=>exact ⟨a,b,rfl⟩
theorem NJ {T e:TypeId} {k:IntKind} {info:TypeInfo} (hu:(d0).underlying T=some (.array 2 e)) (aR:(d0).info? e=some info) (aB:(d0).cellsOf e=1) (he:(d0).underlying e=some (.int k))
  (aF:∀ (a b:Int) (w:World),(part e #[.int k a,.int k b] 0).run d0 w = .ok (.int k a) w∧(part e #[.int k a,.int k b] 1).run d0 w = .ok (.int k b) w) (d:Nat) (a b c7 aY:Int) (w:World) :
  (Op.equalIn (d+2) T (.agg #[.int k a,.int k b]) (.agg #[.int k c7,.int k aY])).run d0 w = .ok ([a,b]==[c7,aY]) w:=by
 rw [show d+2=(d+1)+1 from rfl,run_equalIn_array w _ _ _ hu aR,aB];have br:∀ a b:Int,(Op.equalIn (d+1) e (.int k a) (.int k b)).run d0 w = .ok (a==b) w:=fun a b=>run_equalIn_int w d e k k a b he
 simp only [show ag3 2=[0,1] from rfl,Op.eqItems,ac',Nat.zero_mul,Nat.one_mul,(aF a b w).1,(aF a b w).2,(aF c7 aY w).1,(aF c7 aY w).2,i5,br];cases U:a==c7<;>cases ad:b==aY<;>simp_all
theorem NK:sE d0 319 .i64 4:=by
 refine ⟨by kernel_rfl,fun e xs ab w=>?_,fun xs ys ab ay w=>?_⟩
 ·obtain ⟨a,b,c,d,rfl⟩:=four ab
  kernel_rfl
 ·obtain ⟨a,b,c,d,rfl⟩:=four ab
  obtain ⟨c7,aY,pH,c9,rfl⟩:=four ay;have ar:(d0).underlying 319 = some (.struct ((d0).fieldsOf 319)):=by kernel_rfl
  have aF:(d0).stoodInHeld 319 = false:=by kernel_rfl
  have a7:((d0).fieldsOf 319).toList=[{ name := "arg", type := 3, offset:=0,embedded:=false,tag := "", pkgPath := "consort/fact", byteOffset:=0 },{ name := "many", type := 3, offset:=1,embedded:=false,tag := "", pkgPath := "consort/fact", byteOffset:=8 },{ name := "path", type := 317, offset:=2,embedded:=false,tag := "", pkgPath := "consort/fact", byteOffset:=16 }]:=by kernel_rfl
  have hint:(d0).underlying 3 = some (.int .i64):=by kernel_rfl
  obtain ⟨info,aR⟩:=info_of_underlying hint;have lb:∀ a b c d:Int,(part 3 #[.int .i64 a,.int .i64 b,.int .i64 c,.int .i64 d] 0).run d0 w = .ok (.int .i64 a) w:=fun a b c d=>by kernel_rfl
  have Ej:∀ a b c d:Int,(part 3 #[.int .i64 a,.int .i64 b,.int .i64 c,.int .i64 d] 1).run d0 w = .ok (.int .i64 b) w:=fun a b c d=>by kernel_rfl
  have Xa:∀ a b c d:Int,(part 317 #[.int .i64 a,.int .i64 b,.int .i64 c,.int .i64 d] 2).run d0 w = .ok (.agg #[.int .i64 c,.int .i64 d]) w:=fun a b c d=>by kernel_rfl
  have BC:=NJ (T := 317) (e := 3) (k := .i64) gj aR gj hint (fun a b w=>⟨by kernel_rfl,by kernel_rfl⟩) 9997 c d pH c9 w;have aw:∀ a b c d:Int,pT .i64 [a,b,c,d] = .agg #[.int .i64 a,.int .i64 b,.int .i64 c,.int .i64 d]:=fun _ _ _ _=>rfl
  have br:∀ a b:Int,(Op.equalIn 9999 3 (.int .i64 a) (.int .i64 b)).run d0 w = .ok (a==b) w:=fun a b=>run_equalIn_int w 9998 3 .i64 .i64 a b hint
  have BC:(Op.equalIn 9999 317 (.agg #[.int .i64 c,.int .i64 d]) (.agg #[.int .i64 pH,.int .i64 c9])).run d0 w = .ok ([c,d]==[pH,c9]) w:=BC;rw [aw,aw];unfold Op.equal;rw [show Op.maxDepth=9999+1 from rfl,run_equalIn_struct w _ _ _ _ ar aF,a7];simp only [Op.eqFields,ac',ne_eq,reduceCtorEq,not_false_eq_true,ag7,lb,Ej,Xa,i5,br,BC];cases U:a==c7<;>cases ad:b==aY<;>cases al:c==pH<;>cases bf:d==c9<;>simp_all
structure dv where
 low:Int
 high:Int
 e6:List Int
 gb:Nat
 no:Nat
 whole:Bool
 gC:Bool
 bp:List Int
def je:dv:=⟨-1000000000,1000000000,[],0,0,false,false,[]⟩
def bx (arg:Int) (path:List Int):List Int:=[arg,(path.length:Int),path.getD 0 0,path.getD 1 0]
def nx (s:Int) (l:List Int):List Int:=if l.contains s then l else (l++[s]).mergeSort (fun a b=>decide (a≤b))
def dv.need (k:dv) (neg:Bool):dv:={ k with gC:=k.gC || !neg }
def dv.slot (k:dv) (s:Int):dv:={ k with bp:=nx s k.bp }
def dv.ask (k:dv) (x:ch):dv:=
 if x.1.op=2 then (if x.2 then { k with no:=k.no|||2^x.1.cls.toNat } else { k with gb:=k.gb|||2^x.1.cls.toNat })
 else if x.1.op=3 then (if x.2 then { k with low:=max k.low x.1.n } else { k with high:=min k.high (x.1.n-1),whole:=true })
 else if x.2 then { k with e6:=k.e6++[x.1.n] }
 else { k with low:=max k.low x.1.n,high:=min k.high x.1.n,whole:=true }
abbrev d':=List Int→dv
def d'.h2 (σ:d') (sp:List Int) (k:dv):d':=fun q=>if q=sp then k else σ q
def hb (neg:Bool) (arg:Int) (path:List Int):Nat→d'→d'
 | 0,σ=>σ.h2 (bx arg []) ((σ (bx arg [])).need neg)
 | j+1,σ=>
  let BD:=hb neg arg path j σ
  let here:=bx arg (path.take j)
  let NL:=BD.h2 here ((BD here).slot (path.getD j 0))
  let there:=bx arg (path.take (j+1))
  NL.h2 there ((NL there).need neg)
def addLit (σ:d') (x:ch):d':=
 let BD:=hb x.2 x.1.arg x.1.path x.1.path.length σ
 let here:=bx x.1.arg x.1.path
 BD.h2 here ((BD here).ask x)
def xr:d':=fun _=>je
def ev (l:List ch):d':=l.foldl addLit xr
def iM (sp:List Int):ag:=kx .i64 sp
def ib (w:bz) (mb:Nat):ag := .bw [gu w,.map mb] 0
def kV (k:dv) (e6 bp:ag):List ag:=[.int .i64 k.low,.int .i64 k.high,e6,.int .u64 (k.gb:Int),.int .u64 (k.no:Int),.bool k.whole,.bool k.gC,bp]
def NM:List ag:=kV je (.aA 1 [] .nil) (.aA 0 [] .nil)
abbrev SMap:=List (List Int×ag)
def rM (mb:Nat) (es:SMap):bN×dH:=(.own mb,.map (mS .i64 es))
theorem NN (Ib oU:ag) (Xb:aQ (.aA 0 [] .nil) Ib) (mz:aQ (.aA 0 [] .nil) oU) (w:bz) (mb:Nat) (es:SMap) (qG:∀ e∈es,e.1.length=4) (hR ea dj dQ:Int):bA d0 280 [ib w mb,iM [hR,ea,dj,dQ]] ([rM mb es]) (fun o K=>(∃ e,es.find? (fun e=>e.1==[hR,ea,dj,dQ])=some e∧o = .ret e.2∧K=[rM mb es])∨(es.find? (fun e=>e.1==[hR,ea,dj,dQ])=none∧∃ Ic,o = .ret (.ptr Ic 0)∧K=[rM mb (es++[([hR,ea,dj,dQ],.ptr Ic 0)]),(.own Ic,.box 340 (kV je Ib oU))])):=by
 have an:=bD;refine bA.bh ah Tryz.func280 C C fun s I=>?_
 unfold rM at I ⊢;unfold ib;unfold gu fc
 repeat (first|(refine sk ?_)|refine aa.jC I C C C C C C (fun b I=>?_)|(refine T6 I ?_;clear I;intro I))
 refine aK.y9 (xs:=[hR,ea,dj,dQ]) ah I NK C C C C C C C C C C qG aW C ?_;cases a7:es.find? (fun e=>e.1==[hR,ea,dj,dQ]) with
 | some e=>
  simp only [ao9];refine b' ?_;exact Fin.bs I C aJ aX (.inl ⟨e,rfl,rfl,rfl⟩)
 | none=>
  simp only [at2]
  repeat (first
   | refine aK.step C ?_
   | refine aK.nil ?_)
  repeat (first|(refine sk ?_)|refine aa.jC I C C C C C C (fun b I=>?_)|(refine Lz ?_))
  refine ae.wQ I b (kV je Ib oU) .here (.cons aJ (.cons aJ (.cons Xb (.cons aJ (.cons aJ (.cons aJ (.cons aJ (.one mz)))))))) (fun I=>?_);refine tB I ?_;intro I;refine aK.BA (xs:=[hR,ea,dj,dQ]) ah I NK C C C (.inl C) C C C C C C qG aW a7 (fun I=>?_);refine gX ?_;exact Fin.bs I C aJ aX (.inr ⟨by first|rfl|trivial,_,rfl,rfl⟩)
theorem NO (a Ek lb bu:Int):aT d0 281 [iM [a,0,Ek,lb],.int .i64 bu] (iM [a,1,bu,lb]):=by
 have an:=bD;refine aT.bh ah Tryz.func281 C C fun s I=>?_
 unfold iM kx
 repeat (first|(refine sk ?_)|refine aa.jC I C C C C C C (fun b I=>?_)|refine aa.eb ah I C C C C C C C (fun cH I=>?_)|(refine GS I ?_;clear I;intro I))
 refine aa.arr ah 0 C C C C C C C C C C af ?_;refine cC I ?_;intro I;exact Fin.cB I (oH C C (bo.get aW I) C) aJ
theorem NP (a Ek lb bu:Int):aT d0 281 [iM [a,1,Ek,lb],.int .i64 bu] (iM [a,2,Ek,bu]):=by
 have an:=bD;refine aT.bh ah Tryz.func281 C C fun s I=>?_
 unfold iM kx
 repeat (first|(refine sk ?_)|refine aa.jC I C C C C C C (fun b I=>?_)|refine aa.eb ah I C C C C C C C (fun cH I=>?_)|(refine GS I ?_;clear I;intro I))
 refine aa.arr ah 1 C C C C C C C C C C af ?_;refine cC I ?_;intro I;exact Fin.cB I (oH C C (bo.get aW I) C) aJ
def pU (kb:Nat) (k:dv) (on:bN) (oU:ag):a':=[(.own kb,.box 340 (kV k (.aA 1 (k.e6.map a8) on) oU)),(on,.row 3 1 k.e6.length)]
structure Xc (k:dv):Prop where
 gb:k.gb<2^64
 no:k.no<2^64
 e6:k.e6.length<bC
structure tY (w:bz) (x:ch):Prop where
 oK:gH w x.1=true
 leaf:x.1.c5=true
theorem tY.node {w:bz} {x:ch} (h:tY w x):ik w x.1=true:=by
 have:=h.oK;rw [oL,f8] at this;exact this.1
theorem tY.num {w:bz} {x:ch} (h:tY w x) : -1000000000≤x.1.n∧x.1.n≤1000000000:=by
 have U:=h.node;simp only [ik,h.leaf,ag7,f8,i8] at U;have qC:=U.2.2.2.2.2.2.2;split at qC
 ·simp at qC;omega
 ·simp [kN] at qC;omega
theorem hZ.n {P:Program} {Γ:cA} {N:Nat} {l:List Oper} {Q:b9→Env→ao→Prop} {m:Nat} {env:Env} {s:ao}:hZ P Γ N l Q m env s []:=trivial
theorem hZ.c {P:Program} {Γ:cA} {N:Nat} {l:List Oper} {Q:b9→Env→ao→Prop} {m:Nat} {env:Env} {s:ao} {i:Nat} {is:List Nat} (h:ko P Γ N l Q m env s i) (t:hZ P Γ N l Q m env s is):hZ P Γ N l Q m env s (i::is):=⟨h,t⟩
theorem Xd (w:bz) (hw:w.ps.length≤60) (kb:Nat) (k:dv) (aE:Xc k) (eT : -1000000000≤k.low∧k.low≤1000000000 ∧ -1000000001≤k.high∧k.high≤1000000000) (on:bN) (oU:ag) (mz:fe oU=true) (x:ch) (ab:tY w x):bA d0 282 [.ptr kb 0,h' x] (pU kb k on oU) (fun o K=>o = .ret (.cw [])∧∃ xt,K=pU kb (k.ask x) xt oU):=by
 have an:=bD;refine bA.bh ah Tryz.func282 C C fun s I=>?_
 obtain ⟨cE,dq,fl⟩:=aE;have iT:=y6.of ab.node ab.leaf;have oV:=ab.num;have hP:=ab.leaf;obtain ⟨f,neg⟩:=x;simp only at iT oV hP;unfold pU at I ⊢;have b3:f.op=2∨f.op=3∨f.op=4:=by
  unfold ak.c5 at hP;simp at hP;omega
 unfold kV at I ⊢;unfold h' qy ak.cells;rcases b3 with ad|ad|ad
 ·obtain ⟨cu,cL⟩:=iT.cls ad
  obtain ⟨c,aB⟩:∃ c:Nat,f.cls=c:=⟨f.cls.toNat,by omega⟩;have NQ:c<64:=by omega
  have jR:=Bl k.no c dq NQ;have jk:=Bl k.gb c cE NQ;have a6:k.ask (f,neg)=if neg then { k with no:=k.no|||2^c } else { k with gb:=k.gb|||2^c }:=by
   unfold dv.ask;rw [g6 ad,aB,ae1]
  rw [ad,aB];cases neg with
  | true=>
   rw [g6 C] at a6;rw [a6];refine hD I ?_;intro I;exact Fin.bs I C aJ aX ⟨rfl,on,rfl⟩
  | false=>
   rw [f0 ba] at a6;rw [a6];refine hD I ?_;intro I;exact Fin.bs I C aJ aX ⟨rfl,on,rfl⟩
 ·have a6:k.ask (f,neg)=if neg then { k with low:=max k.low f.n } else { k with high:=min k.high (f.n-1),whole:=true }:=by
   unfold dv.ask;rw [f0 (by simp [ad]),g6 ad]
  rw [ad];cases neg with
  | true=>
   rw [g6 C] at a6;rw [a6];have e:(if f.n>k.low then f.n else k.low)=max k.low f.n:=by omega
   refine hD I ?_;intro I;exact Fin.bs I C aJ (by rw [← e];exact aX) ⟨rfl,on,rfl⟩
  | false=>
   rw [f0 ba] at a6;rw [a6];have dm:t7 .i64 (f.n-1)=f.n-1:=dz af af;have e:(if f.n-1<k.high then f.n-1 else k.high)=min k.high (f.n-1):=by omega
   refine bl ?_;refine ae.rk ah mixed C (bc.run C ?_);refine bc.ey 6 ah I C C C C C C C C aW b1 ?_;refine bc.run C ?_;refine bc.pure 11 C C C C C (.x C) ?_;refine bc.run C ?_;refine bc.cK 15 ah I C C C C C C C C C C C aW b1 (fun I=>?_);refine bc.run C ?_;refine bc.cK 18 ah I C C C C C C C C C C C aW b1 (fun I=>?_);refine bc.run C ?_;refine bc.done C ?_;refine gx ?_;have vj:Ok s (pU kb { k with high:=(if t7 .i64 (f.n-1)<k.high then t7 .i64 (f.n-1) else k.high),whole:=true } on oU):=I;rw [dm,e] at vj;exact Fin.bs (L:=pU kb { k with high:=(if t7 .i64 (f.n-1)<k.high then t7 .i64 (f.n-1) else k.high),whole:=true } on oU) I C aJ (by rw [dm,e];exact aG.all _) ⟨rfl,on,rfl⟩
 ·rw [ad]
  cases neg with
  | true=>
   have a6:k.ask (f,true)={ k with e6:=k.e6++[f.n] }:=by
    unfold dv.ask;rw [f0 (by simp [ad]),f0 (by simp [ad]),g6 C]
   rw [a6];refine bl ?_;refine ae.rk ah mixed C (bc.run C ?_);refine bc.ey 5 ah I C C C C C C C C aW b1 ?_;refine bc.run C ?_;refine bc.fO 10 ah I C C C C C C C C C di C C C C C C C C aW gY jS af (fun BE I=>?_);refine bc.run C ?_;refine bc.cK 14 ah I C C C C C C C C C C C aW b1 (fun I=>?_);refine bc.run C ?_;refine bc.done C ?_;refine gx ?_;have e1:pU kb { k with e6:=k.e6++[f.n] } (.own BE) oU=[(.own kb,.box 340 [.int .i64 k.low,.int .i64 k.high,.aA 1 (k.e6.map a8++[.int .i64 f.n]) (.own BE),.int .u64 (k.gb:Int),.int .u64 (k.no:Int),.bool k.whole,.bool k.gC,oU]),(.own BE,.row 3 1 (k.e6.length+1))]:=by
    unfold pU kV;simp [a8]
   exact Fin.bs I C aJ (K:=pU kb { k with e6:=k.e6++[f.n] } (.own BE) oU) (by rw [e1];exact aX) ⟨rfl,.own BE,rfl⟩
  | false=>
   have a6:k.ask (f,false)={ k with low:=max k.low f.n,high:=min k.high f.n,whole:=true }:=by
    unfold dv.ask;rw [f0 (by simp [ad]),f0 (by simp [ad]),f0 ba]
   rw [a6];have b2:(if f.n>k.low then f.n else k.low)=max k.low f.n:=by omega
   have bU:(if f.n<k.high then f.n else k.high)=min k.high f.n:=by omega
   refine bl ?_;refine ae.rk ah mixed C (bc.run C ?_);refine bc.many C (hZ.c (ko.mk (i:=7) C C C C (aZ.ey ah I C C C aW C (X:=fun _ _=>False)) ?_ (fun _ _ h=>False.elim h)) (hZ.c (ko.mk (i:=16) C C C C (aZ.ey ah I C C C aW C (X:=fun _ _=>False)) ?_ (fun _ _ h=>False.elim h)) hZ.n))
   ·rintro _ _ ⟨rfl,rfl⟩
    refine bc.pure 11 C C C C C (.x C) ?_;refine bc.run C ?_;refine bc.many C (hZ.c (ko.mk (i:=16) C C C C (aZ.ey ah I C C C aW C (X:=fun _ _=>False)) ?_ (fun _ _ h=>False.elim h)) hZ.n)
    ·rintro _ _ ⟨rfl,rfl⟩
     refine bc.pure 20 C C C C C (.x C) ?_;refine bc.run C ?_;refine bc.cK 24 ah I C C C C C C C C C C C aW b1 (fun I=>?_);refine bc.run C ?_;refine bc.cK 28 ah I C C C C C C C C C C C aW b1 (fun I=>?_);refine bc.run C ?_;refine bc.cK 31 ah I C C C C C C C C C C C aW b1 (fun I=>?_);refine bc.run C ?_;refine bc.done C ?_;refine gx ?_;exact Fin.bs I C aJ (by rw [← b2,← bU];exact aX) ⟨rfl,on,rfl⟩
   ·rintro _ _ ⟨rfl,rfl⟩
    refine bc.pure 20 C C C C C (.x C) ?_;refine bc.run C ?_;refine bc.many C (hZ.c (ko.mk (i:=7) C C C C (aZ.ey ah I C C C aW C (X:=fun _ _=>False)) ?_ (fun _ _ h=>False.elim h)) hZ.n)
    ·rintro _ _ ⟨rfl,rfl⟩
     refine bc.pure 11 C C C C C (.x C) ?_;refine bc.run C ?_;refine bc.cK 24 ah I C C C C C C C C C C C aW b1 (fun I=>?_);refine bc.run C ?_;refine bc.cK 28 ah I C C C C C C C C C C C aW b1 (fun I=>?_);refine bc.run C ?_;refine bc.cK 31 ah I C C C C C C C C C C C aW b1 (fun I=>?_);refine bc.run C ?_;refine bc.done C ?_;refine gx ?_;exact Fin.bs I C aJ (by rw [← b2,← bU];exact aX) ⟨rfl,on,rfl⟩
end Go.Proofs.YtnafpeohfbglmaaGreat
